/- Part 12 of the proof. -/
import Derived.Test.YtapphbmlkdhnmaaGreatPart2
import Derived.Test.YtapphbmlkdhnmaaGreatPart11
import Derived.Test.YtapphbmlkdhnmaaGreatPart4
import Derived.Test.YtapphbmlkdhnmaaGreatPart3
/- The sums of crc and of its reference. -/
namespace Go.Proofs.YtapphbmlkdhnmaaGreat
open Go.GV
attribute [local irreducible] A2 W Wq



theorem GH (b:UInt8):b.toNat<256:=b.toNat_lt
theorem Ko (w:BitVec 32):w.toNat<4294967296:=w.isLt
theorem Aak (s:BitVec 32):4294967295 ^^^ s.toNat=(~~~s).toNat:=by
 rw [← BitVec.allOnes_xor,BitVec.toNat_xor,BitVec.toNat_allOnes]
theorem IE (c:UInt8):(De c).toNat=c.toNat:=by
 have:=GH c
 unfold De
 rw [BitVec.toNat_ofNat,Nat.mod_eq_of_lt (by omega)]
theorem xor_b (w:BitVec 32) (c:UInt8):w.toNat ^^^ c.toNat=(w ^^^ De c).toNat:=by
 rw [BitVec.toNat_xor,IE]
theorem ZB (w:BitVec 32):w.getLsbD 0=decide (w.toNat % 2=1):=by
 rw [BitVec.getLsbD,Nat.testBit_zero]
theorem XR (w:BitVec 32):(w.toNat / 2) ^^^ (if w.toNat % 2=1 then 3988292384 else 0)=(G3 w).toNat:=by
 unfold G3
 rw [BitVec.toNat_xor,BitVec.toNat_ushiftRight,Nat.shiftRight_eq_div_pow,ZB]
 by_cases h:w.toNat % 2=1
 ·simp [h,polyW]
 ·simp [h]
theorem V1 (w:BitVec 32):(w.toNat / 2 ^ 1) ^^^ ((3988292384*(w.toNat &&& 1)) % 4294967296)=(G3 w).toNat:=by
 rw [← XR,Nat.and_one_is_mod]
 by_cases h:w.toNat % 2=1
 ·simp [h]
 ·have h0:w.toNat % 2=0:=by omega
  simp [h0]
theorem SZ (n:Nat) (w:BitVec 32):G3 (Cg n w)=Cg (n+1) w:=by
 rw [← EF n 1]; rfl

theorem ZC (s:BitVec 32) (a:Option Addr) (c:Nat) (l:List UInt8) (w:World) (R:Rd w a 1 B8 l) (hm:l.length≤9223372036854775807) :
  Ret Tryz.prog 149 #[.int .u32 (s.toNat:Int),.slice a l.length c] w fun v w'=>v = .int .u32 ((XO s l).toNat:Int)∧w=w':=by
 have hs:=Ko s
 refine A1 (fn:=Tryz.f149) Tryz.func149 rfl [.int .u32 (s.toNat:Int),.slice a l.length c] rfl (by kernel_rfl) ?_
 refine Ag (Af rfl rfl (Ab (Aa (Ag (Ad rfl rfl (Md rfl rfl (by omega) ?_))))))
 rw [Aak]
 refine Af rfl rfl (Ab (Aa (Aq (Ag (An rfl rfl (AU rfl C9 rfl (Ad rfl rfl (Ab (Aa (Au (Bi 1073737888 (α:=Nat) (fun k=>[(12,.int .i64 k),(5,.int .u32 (((l.take k).foldl E2 (~~~s)).toNat:Int))]) (fun k w'=>k≤l.length∧w=w') (fun k=>l.length - k) 0 rfl ?_ ?_ ?_)))))))))))
 ·exact ⟨rfl,rfl,trivial⟩
 ·exact ⟨Nat.zero_le _,rfl⟩
 ·rintro k j _ ⟨hk,rfl⟩
  refine Ag (AN rfl rfl rfl (Ab (Aa (Aq (Ax _ rfl ?_ ?_)))))
  ·intro h1
   replace h1:=AF h1
   obtain ⟨x,hx⟩:=AC (l:=l) (i:=k) (by omega)
   have hxb:=GH x
   have hw:=Ko ((l.take k).foldl E2 (~~~s))
   generalize hv:(l.take k).foldl E2 (~~~s)=v at hw
   refine Av (Aa (Aq (Au (Ag (AZ R rfl C9 F1 rfl rfl (by omega) (by omega) (by rfl) ?_)))))
   refine AX rfl ag_5 rfl (R.one (f:=bv) hx) ?_
   refine Af rfl rfl (Ab (Aa (Ag (Ad rfl rfl (Ad rfl rfl (KT rfl rfl Iz T7 (by omega) (by omega) ?_))))))
   refine Mc rfl rfl rfl (by omega) (by omega) ?_
   rw [xor_b]
   refine Af rfl rfl (Ab (Aa (Ag (Ad rfl rfl (Ab (Aa (Au (Bi 535822368 (α:=Nat) (fun i=>[(20,.int .i64 i),(5,.int .u32 ((Cg i (v ^^^ De x)).toNat:Int))]) (fun i w'=>i≤8∧w=w') (fun i=>8 - i) 0 rfl ?_ ?_ ?_))))))))
   ·exact ⟨rfl,rfl,trivial⟩
   ·exact ⟨Nat.zero_le _,rfl⟩
   ·rintro i j _ ⟨hi,rfl⟩
    have hu:=Ko (Cg i (v ^^^ De x))
    generalize hz:Cg i (v ^^^ De x)=z at hu
    refine Ag (AN rfl rfl rfl (Ab (Aa (Aq (Ax _ rfl ?_ ?_)))))
    ·intro h2
     replace h2:=AF h2
     refine Av (Aa (Aq (Au (Aw (Ad rfl rfl (J7 (n:=1) rfl rfl rfl (by omega) ?_))))))
     refine Ad rfl rfl (RN (b:=1) rfl rfl rfl (by omega) (by omega) ?_)
     refine PO (a:=3988292384) rfl rfl rfl ?_
     refine Mc rfl rfl rfl (by omega) (by omega) ?_
     rw [V1]
     refine Af rfl rfl (Ab (A5 (Aa (Aw (Ap rfl rfl rfl (by omega) (by omega) ?_)))))
     refine Ad rfl rfl (Ab (Aa ?_))
     exact ⟨i+1,rfl,⟨rfl,by rw [← SZ,hz]; rfl,trivial⟩,⟨by omega,rfl⟩,by omega⟩
    ·intro h2
     replace h2:=AG h2
     have hi8:i=8:=by omega
     subst hi8
     refine Bd (Aj (Aj (AD (A5 (Aa (Aw (Ap rfl rfl rfl (by omega) (by omega) ?_)))))))
     refine Ad rfl rfl (Ab (Aa ?_))
     refine ⟨k+1,rfl,⟨rfl,?_,trivial⟩,⟨by omega,rfl⟩,by omega⟩
     rw [C5 hx,List.foldl_append,hv,List.foldl_cons,List.foldl_nil,E2,hz]; rfl
  ·intro h1
   replace h1:=AG h1
   have hke:k=l.length:=by omega
   subst hke
   rw [List.take_length]
   have hw:=Ko (l.foldl E2 (~~~s))
   refine Bd (Aj (Aj (AD (Aa (Ag (Ad rfl rfl (Md rfl rfl (by omega) ?_)))))))
   rw [Aak]
   refine Af rfl rfl (Ab (Aa (A9 (AB (v:=(.int _ _)) rfl rfl rfl ?_))))
   exact ⟨rfl,rfl⟩

theorem XS (a:Option Addr) (c n:Nat) (l:List UInt8) (w:World) (R:Rd w a 1 B8 l) (hn:l.length=n) (hm:n≤9223372036854775807) :
  Ret Tryz.prog 88 #[.slice a n c] w fun v w'=>v = .int .u32 ((Px l).toNat:Int)∧w=w':=by
 subst hn
 refine A1 (fn:=Tryz.f88) Tryz.func88 rfl [.slice a l.length c] rfl (by kernel_rfl) ?_
 refine Ag (Af rfl rfl (Ab (Aa (Ag (An rfl rfl (Ao rfl Abn (ZC 0#32 a c l w R hm) rfl ?_))))))
 rintro v w ⟨rfl,rfl⟩
 refine Af rfl rfl (Ab (Aa (A9 (AB (v:=(.int _ _)) rfl rfl rfl ?_))))
 exact ⟨rfl,rfl⟩

/-- The number that bytes are, the least first. -/
def EZ:List UInt8→Nat
 | []=>0
 | c::l=>c.toNat+256*EZ l
theorem QV:∀ (l m:List UInt8),EZ (l++m)=EZ l+256 ^ l.length*EZ m
 | [],m=>by simp [EZ]
 | c::l,m=>by
  have h:=QV l m
  simp only [List.cons_append,EZ,List.length_cons,h,Nat.pow_succ]
  rw [Nat.mul_add,← Nat.mul_assoc,Nat.mul_comm (256 ^ l.length) 256]; omega
theorem Py:∀ l:List UInt8,EZ l<256 ^ l.length
 | []=>by simp [EZ]
 | c::l=>by
  have h:=Py l
  have hc:=GH c
  simp only [EZ,List.length_cons,Nat.pow_succ]; omega
theorem V2 {l:List UInt8} {k:Nat} {c:UInt8} (hk:l[k]? = some c) (h4:k<4):EZ (l.take k) ||| (c.toNat*2 ^ (8*k) % 4294967296)=EZ (l.take (k+1)):=by
 have hl:=CB hk
 have hlen:(l.take k).length=k:=by rw [List.length_take]; omega
 have h1:=Py (l.take k)
 rw [hlen] at h1
 have h2:(256:Nat) ^ k=2 ^ (8*k):=by rw [Nat.pow_mul]
 have hc:=GH c
 have h3:c.toNat*2 ^ (8*k)<4294967296:=by
  have:k=0∨k=1∨k=2∨k=3:=by omega
  rcases this with h | h | h | h <;> subst h <;> omega
 rw [C5 hk,QV,hlen,Nat.mod_eq_of_lt h3,Nat.or_comm,Nat.mul_comm c.toNat,← Nat.two_pow_add_eq_or_of_lt (by rw [← h2]; exact h1),h2]
 simp only [EZ,Nat.mul_zero,Nat.add_zero]; omega

def Es (b:List UInt8):Bool:=decide (4≤b.length) && decide ((Px (b.take (b.length - 4))).toNat=EZ (b.drop (b.length - 4)))

theorem QW (a:Option Addr) (c:Nat) (l:List UInt8) (w:World) (R:Rd w a 1 B8 l) (hm:l.length≤9223372036854775807) (hc:l.length≤c) :
  Ret Tryz.prog 78 #[.slice a l.length c] w fun v w'=>v = .bool (Es l)∧w=w':=by
 refine A1 (fn:=Tryz.f78) Tryz.func78 rfl [.slice a l.length c] rfl (by kernel_rfl) ?_
 refine Ag (Ai rfl rfl (Ab (Aa (Ag (An rfl rfl (AU rfl C9 rfl (Bf rfl rfl rfl (by omega) (by omega) ?_)))))))
 refine Af rfl rfl (Ab (Aa (Aq (Ag (Ad rfl rfl (AN rfl rfl rfl (Ab (Aa (Ax _ rfl ?_ ?_)))))))))
 ·intro h1
  replace h1:=AF h1
  refine Ag (Ai rfl rfl (Ab (Aa (A9 (Al (AB (v:=(.bool _)) rfl rfl rfl ?_))))))
  exact ⟨congrArg Value.bool (by rw [Es,decide_eq_false (by omega)]; rfl),rfl⟩
 ·intro h1
  replace h1:=AG h1
  obtain ⟨m,hm4⟩:∃ m,l.length=m+4:=⟨l.length - 4,by omega⟩
  rw [show (l.length:Int) - 4=(m:Int) by omega]
  have R':=R.cut m c hc
  have hd:(l.drop m).length=4:=by rw [List.length_drop]; omega
  refine Av (Aa (Ag (Af rfl rfl (Ab (Aa (Aq (Ag (An rfl rfl (Ad rfl rfl (EU rfl C9 F1 rfl rfl (by omega) (by omega) ?_))))))))))
  refine AU rfl C9 rfl (Ad rfl rfl (Ab (Aa (Au ?_))))
  rw [show l.length - ((m:Int)).toNat=4 by omega]
  refine Bi 536805488 (α:=Nat) (fun k=>[(16,.int .i64 k),(4,.int .u32 (EZ ((l.drop m).take k):Int))]) (fun k w'=>k≤4∧w=w') (fun k=>4 - k) 0 rfl ?_ ?_ ?_
  ·exact ⟨rfl,rfl,trivial⟩
  ·exact ⟨Nat.zero_le _,rfl⟩
  ·rintro k j _ ⟨hk,rfl⟩
   refine Ag (AN rfl rfl rfl (Ab (Aa (Aq (Ax _ rfl ?_ ?_)))))
   ·intro h2
    replace h2:=AF h2
    obtain ⟨x,hx⟩:=AC (l:=l.drop m) (i:=k) (by omega)
    have hxb:=GH x
    have hw:EZ ((l.drop m).take k)<4294967296:=by
     have h:=Py ((l.drop m).take k)
     have h2:256 ^ ((l.drop m).take k).length≤256 ^ 4:=Nat.pow_le_pow_right (by omega) (by rw [List.length_take]; omega)
     have h3:(256:Nat) ^ 4=4294967296:=by decide
     omega
    refine Av (Aa (Aq (Au (Ag (Ad rfl rfl (AZ R' rfl C9 F1 rfl rfl (by omega) (by omega) (by omega) ?_))))))
    refine AX rfl ag_5 rfl (R'.one (f:=bv) hx) ?_
    refine Af rfl rfl (Af rfl rfl (Ab (Aa (Aw (Ad rfl rfl (Ad rfl rfl (KT rfl rfl Iz T7 (by omega) (by omega) ?_)))))))
    refine Ad rfl rfl (Cf rfl rfl rfl (by omega) (by omega) ?_)
    rw [show (8:Int)*(k:Int)=((8*k:Nat):Int) from by simp]
    refine RQ rfl rfl rfl (by omega) ?_
    refine U0 rfl rfl rfl (by omega) (by omega) ?_
    rw [V2 hx (by omega)]
    refine Af rfl rfl (Ab (A5 (Aa (Aw (Ap rfl rfl rfl (by omega) (by omega) ?_)))))
    refine Ad rfl rfl (Ab (Aa ?_))
    exact ⟨k+1,rfl,⟨rfl,rfl,trivial⟩,⟨by omega,rfl⟩,by omega⟩
   ·intro h2
    replace h2:=AG h2
    have hk4:k=4:=by omega
    subst hk4
    rw [show (l.drop m).take 4=l.drop m from List.take_of_length_le (by omega)]
    refine Bd (Aj (Aj (AD (Aa (Ag (An rfl rfl (Ad rfl rfl (EV rfl C9 F1 rfl rfl (by omega) (by omega) ?_))))))))
    refine Ao rfl ZY (XS a c m (l.take m) w (R.take m) (by rw [List.length_take]; omega) (by omega)) rfl ?_
    rintro v w ⟨rfl,rfl⟩
    refine Ad rfl rfl (BX rfl rfl rfl (Ai rfl rfl (Ab (Aa (A9 (AB (v:=(.bool _)) rfl rfl rfl ?_))))))
    refine ⟨congrArg Value.bool ?_,rfl⟩
    rw [Es,decide_eq_true (show 4≤l.length by omega),Bool.true_and,show l.length - 4=m by omega]
    exact decide_eq_decide.2 (by omega)

/-! ### The reference -/
end Go.Proofs.YtapphbmlkdhnmaaGreat

/- Numbers as bytes; copies of bytes. -/
namespace Go.Proofs.YtapphbmlkdhnmaaGreat
open Go.GV
attribute [local irreducible] A2 W Wq

theorem Fresh.rdB {w w':World} {t:Nat} {s:Value} {xs:List UInt8} (h:Fresh w w' t 1 s (xs.map bv)):∃ a c,s = .slice a xs.length c∧Rd w' a 1 B8 xs∧xs.length≤c:=by
 obtain ⟨a,n,c,full,rfl,O,hb⟩:=h.ex
 have hn:=O.num
 subst hn
 exact ⟨a,c,rfl,O.rd1 (t:=t) fun x hx=>(hb x hx).1,O.le⟩
theorem Rd.appB {w:World} {a:Option Addr} {l:List UInt8} (R:Rd w a 1 B8 l):∀ j v,(l.map bv)[j]? = some v→∃ p,a=some p∧w.cell? (p.add j)=some v:=Rd.app1 (f:=bv) R
theorem OS.rdB {w:World} {a:Option Addr} {n c:Nat} {t:TypeId} {full:List Value} {xs:List UInt8} (h:OS a n c 1 full (xs.map bv)) (hb:∀ x∈ent a t full,w.heap[x.1]? = some x.2):Rd w a 1 B8 xs:=OS.rd1 h hb

theorem Fresh.since {w0 w w':World} {t s:Nat} {v:Value} {l:List Value} (h:Fresh w w' t s v l) (hx:Ext [] w0 w):Fresh w0 w' t s v l :=
 ⟨let ⟨a,n,c,full,h1,h2,h3⟩:=h.ex; ⟨a,n,c,full,h1,h2,fun x hx'=>⟨(h3 x hx').1,Nat.le_trans hx.size (h3 x hx').2⟩⟩,hx.trans h.ext⟩

theorem XT (a:Option Addr) (c n:Nat) (l:List UInt8) (w:World) (R:Rd w a 1 B8 l) (hn:l.length=n) (hm:n≤140737488351232) :
  Ret Tryz.prog 147 #[.slice a n c] w fun v w'=>Fresh w w' 5 1 v (l.map bv)∧(a=none→v = .slice none 0 0):=by
 subst hn
 obtain ⟨w0,rfl⟩:∃ w0,w0=w:=⟨_,rfl⟩
 have H:=Ctx.start w0 []
 refine A1 (fn:=Tryz.f147) Tryz.func147 rfl [.slice a l.length c] rfl (by kernel_rfl) ?_
 refine Ag (AJ rfl rfl (Ab (Aa (Aq (Ag (An rfl rfl (N4 rfl C9 rfl (Ab (Aa (Ax _ rfl ?_ ?_))))))))))
 ·intro h1
  have ha:a=none:=by simpa using h1
  subst ha
  have hl:l=[]:=by
   cases l with
   | nil=>rfl
   | cons x l=>obtain ⟨b,o,h⟩:=R.some' (by simp); cases h
  subst hl
  refine Ag (AJ rfl rfl (Ab (Aa (A9 (Al (AB (v:=(.slice _ _ _)) rfl rfl rfl ?_))))))
  exact ⟨Fresh.nil H _ _,fun _=>rfl⟩
 ·intro h1
  refine Av (Aa (Ag (Ha rfl C9 F1 H ?_)))
  rintro b5 w H O
  refine An rfl rfl (DT rfl C9 C9 F1 Qo Kb rfl (by decide) (l.map bv) rfl rfl H O (by simp) (Aas l) (Rd.appB (R.ext0 H.ext)) (by omega) ?_)
  rintro a7 c7 full7 w H O
  refine AJ rfl rfl (Ab (Aa (A9 (AB (v:=(.slice _ _ _)) rfl rfl rfl ?_))))
  exact ⟨Ctx.fresh H (by simpa using O),fun h=>by subst h; cases h1⟩

/-! ### Sizes -/
def Hu (k:Int):Bool:=decide (k=1) || (decide (k=2) || (decide (k=4) || decide (k=8)))
theorem QX {k:Int} (h:Hu k=true):∃ n:Nat,k=n∧1≤n∧n≤8:=by
 simp only [Hu,Bool.or_eq_true,decide_eq_true_eq] at h
 exact ⟨k.toNat,by omega,by omega,by omega⟩
theorem V3 (k:Int):∃ z:Int,Option.getD (if k=8 then some (Value.int .i64 64) else if k=4 then some (Value.int .i64 32) else if k=2 then some (Value.int .i64 16) else if k=1 then some (Value.int .i64 8) else none) (Value.int .i64 0) = .int .i64 z∧decide (0<z)=Hu k:=by
 by_cases h8:k=8
 ·exact ⟨64,by simp [h8],by simp [Hu,h8]⟩
 by_cases h4:k=4
 ·exact ⟨32,by simp [h4],by simp [Hu,h4]⟩
 by_cases h2:k=2
 ·exact ⟨16,by simp [h2],by simp [Hu,h2]⟩
 by_cases h1:k=1
 ·exact ⟨8,by simp [h1],by simp [Hu,h1]⟩
 exact ⟨0,by simp [h8,h4,h2,h1],by simp [Hu,h8,h4,h2,h1]⟩
theorem Oj (k:Int) (w:World):Ret Tryz.prog 148 #[.int .i64 k] w fun v w'=>v = .bool (Hu k)∧Ext [] w w':=by
 obtain ⟨w0,rfl⟩:∃ w0,w0=w:=⟨_,rfl⟩
 have H:=Ctx.start w0 []
 refine A1 (fn:=Tryz.f148) Tryz.func148 rfl [.int .i64 k] rfl (by kernel_rfl) ?_
 refine Ag (Ai rfl rfl (Ab (Aa (Ag (Ma .i64 rfl H ?_)))))
 rintro b4 o4 w hM H
 refine IU (.int _ _) rfl My Gu rfl rfl rfl H at0 hM ?_
 rintro o w hM H
 refine IU (.int _ _) rfl My Gu rfl rfl rfl H at0 hM ?_
 rintro o w hM H
 refine IU (.int _ _) rfl My Gu rfl rfl rfl H at0 hM ?_
 rintro o w hM H
 refine IU (.int _ _) rfl My Gu rfl rfl rfl H at0 hM ?_
 rintro o w hM H
 refine PT rfl rfl (RU rfl rfl (Ab (Aa (Ag (PT rfl rfl (Ad rfl rfl (Ux rfl My Gu zv_3 rfl rfl H at0 hM ?_)))))))
 simp only [Uw,VM]
 obtain ⟨z,hz,hzb⟩:=V3 k
 rw [hz]
 refine C0 rfl rfl rfl (Ai rfl rfl (Ab (Aa (A9 (AB (v:=(.bool _)) rfl rfl rfl ?_)))))
 exact ⟨congrArg Value.bool hzb,H.ext⟩
/-! ### Put -/
/-- k bytes of n, the greatest first. -/
def BL (n k:Nat):List UInt8:=(List.range k).map fun i=>UInt8.ofNat (n / 2 ^ (8*(k - 1 - i)))
theorem Df (n k:Nat):(BL n k).length=k:=by simp [BL]
theorem V4 {n k i:Nat} (h:i<k):(BL n k).take (i+1)=(BL n k).take i++[UInt8.ofNat (n / 2 ^ (8*(k - 1 - i)))]:=C5 (Dl h)
theorem Jg (x:Nat):Value.int .u8 ((x % 256:Nat):Int)=bv (UInt8.ofNat x):=by
 unfold bv; congr 2
def putB (l:List UInt8) (n:Nat) (k:Int):List UInt8:=bif Hu k then l++BL n k.toNat else l

set_option maxHeartbeats 1000000 in
theorem Pz (a:Option Addr) (c m:Nat) (l:List UInt8) (n:Nat) (k:Int) (w:World) (R:Rd w a 1 B8 l) (hml:l.length=m) (hm:m≤140737488351231) (_:n<18446744073709551616) :
  Ret Tryz.prog 85 #[.slice a m c,.int .u64 (n:Int),.int .i64 k] w fun v w'=>Fresh w w' 5 1 v ((putB l n k).map bv):=by
 subst hml
 obtain ⟨w0,rfl⟩:∃ w0,w0=w:=⟨_,rfl⟩
 refine A1 (fn:=Tryz.f85) Tryz.func85 rfl [.slice a l.length c,.int .u64 (n:Int),.int .i64 k] rfl (by kernel_rfl) ?_
 refine Ag (AJ rfl rfl (Ab (Aa (Ag (An rfl rfl (Ao rfl Abm (XT a c l.length l _ R rfl (by omega)) rfl ?_))))))
 rintro v w ⟨F,-⟩
 obtain ⟨a7,n7,c7,full7,rfl,O,hb⟩:=F.ex
 have hn7:n7=l.length:=OS.num O
 subst hn7
 have H:Ctx w0 [] w (ent a7 5 full7):=⟨F.ext,fun x hx=>(hb x hx).1,LY,fun x hx => .inr (hb x hx).2⟩
 refine AJ rfl rfl (Ab (Aa (Aq (Ag (Ad rfl rfl (Ao rfl Wp (Oj k _) rfl ?_))))))
 rintro v w ⟨rfl,hx⟩
 replace H:=H.call hx
 refine Bu rfl rfl (Ab (Aa (Ax _ rfl ?_ ?_)))
 ·intro h1
  replace h1:=Bp h1
  refine Ag (An rfl rfl (AJ rfl rfl (Ab (Aa (A9 (Al (AB (v:=(.slice _ _ _)) rfl rfl rfl ?_)))))))
  rw [putB,h1]
  exact Ctx.fresh (L:=[]) H O
 ·intro h1
  replace h1:=Bq h1
  obtain ⟨q,rfl,hq1,hq8⟩:=QX h1
  rw [putB,h1,show ((q:Int)).toNat=q from rfl]
  refine Av (Aa (Aq (Ag (Ad rfl rfl (Ad rfl rfl (Ab (Aa (Au (Bi 2147418496 (α:=Nat × Option Addr × Nat × List Value) (fun x=>[(16,.int .i64 x.1),(7,.slice x.2.1 (l.length+x.1) x.2.2.1)]) (fun x w'=>x.1≤q∧Ctx w0 [] w' (ent x.2.1 5 x.2.2.2)∧OS x.2.1 (l.length+x.1) x.2.2.1 1 x.2.2.2 ((l++(BL n q).take x.1).map bv)) (fun x=>q - x.1) (0,a7,c7,full7) rfl ?_ ?_ ?_)))))))))
  ·exact ⟨rfl,rfl,trivial⟩
  ·exact ⟨Nat.zero_le _,H,by simpa using O⟩
  ·rintro ⟨i,a7,c7,full7⟩ j w ⟨hi,H,O⟩; dsimp only at hi H O; dsimp only
   refine Ag (AN rfl rfl rfl (Ab (Aa (Aq (Ax _ rfl ?_ ?_)))))
   ·intro h2
    replace h2:=AF h2
    refine Av (Aa (Aq (Au (Ag (Ad rfl rfl (Af rfl rfl (Ab (Aa (Aw (An rfl rfl (Ad rfl rfl ?_)))))))))))
    refine Ad rfl rfl (Bf rfl rfl rfl (by omega) (by omega) ?_)
    refine Ad rfl rfl (Bf rfl rfl rfl (by omega) (by omega) ?_)
    refine Cf rfl rfl rfl (by omega) (by omega) ?_
    rw [show (8:Int)*((q:Int) - 1 - (i:Int))=((8*(q - 1 - i):Nat):Int) from by omega]
    refine El rfl rfl rfl (by omega) ?_
    refine Iq rfl rfl FH Iz ?_
    rw [Jg]
    refine DC _ (.int _ _) rfl C9 F1 Kb rfl (by decide) (by decide) rfl rfl rfl H ?_
    rintro b28 w - H
    refine DM (L:=[]) rfl C9 C9 F1 Qo Kb rfl (by decide) rfl rfl H O rfl (by simp [Bz]) (by omega) ?_
    rintro a9 c9 full9 w H O
    refine AJ rfl rfl (Ab (A5 (Aa (Aw (Ap rfl rfl rfl (by omega) (by omega) ?_)))))
    refine Ad rfl rfl (Ab (Aa ?_))
    refine ⟨(i+1,a9,c9,full9),rfl,⟨rfl,rfl,trivial⟩,⟨by omega,H,?_⟩,by dsimp only; omega⟩
    dsimp only
    have O':OS a9 (l.length+(i+1)) c9 1 full9 ((l++(BL n q).take i).map bv++[UInt8.ofNat (n / 2 ^ (8*(q - 1 - i)))].map bv):=O
    rw [← List.map_append,List.append_assoc,← V4 (by omega)] at O'
    exact O'
   ·intro h2
    replace h2:=AG h2
    have hiq:i=q:=by omega
    subst hiq
    refine Bd (Aj (Aj (AD (Aa (Ag (An rfl rfl (AJ rfl rfl (Ab (Aa (A9 (AB (v:=(.slice _ _ _)) rfl rfl rfl ?_)))))))))))
    have hl:(BL n i).take i=BL n i:=List.take_of_length_le (by rw [Df]; exact Nat.le_refl _)
    rw [hl] at O
    exact Ctx.fresh (L:=[]) H O

/-! ### Take -/
def numN (l:List UInt8):Nat:=l.foldl (fun n c=>n*256+c.toNat) 0
theorem Ol (l:List UInt8) (c:UInt8):numN (l++[c])=numN l*256+c.toNat:=by simp [numN]
theorem Kp (l:List UInt8):numN l<256 ^ l.length:=by
 have h:∀ (l:List UInt8) (n k:Nat),n<256 ^ k→l.foldl (fun n c=>n*256+c.toNat) n<256 ^ (k+l.length):=by
  intro l
  induction l with
  | nil=>intro n k h; simpa using h
  | cons c l ih =>
   intro n k h
   have hc:=GH c
   have:=ih (n*256+c.toNat) (k+1) (by rw [Nat.pow_succ]; omega)
   simpa [Nat.add_assoc,Nat.add_comm 1] using this
 have:=h l 0 0 (by simp)
 rw [Nat.zero_add] at this
 exact this
theorem XU {l:List UInt8} {i:Nat} {c:UInt8} (h:l[i]? = some c) (hi:i<8):(numN (l.take i)*2 ^ 8 % 18446744073709551616) ||| c.toNat=numN (l.take (i+1)):=by
 have h1:=Kp (l.take i)
 have hc:=GH c
 have hlen:(l.take i).length≤7:=by rw [List.length_take]; omega
 have h2:256 ^ (l.take i).length≤256 ^ 7:=Nat.pow_le_pow_right (by omega) hlen
 have h3:(256:Nat) ^ 7=72057594037927936:=by decide
 rw [C5 h,Ol,Nat.mod_eq_of_lt (by omega),Nat.mul_comm,← Nat.two_pow_add_eq_or_of_lt (by omega)]
def GI (l:List UInt8) (at' k:Int):Int:=bif Hu k && (decide (0≤at') && decide (at'≤l.length)) then (bif decide (k≤(l.length:Int) - at') then 0 else 5) else 1
def IF (l:List UInt8) (at' k:Int):Value:=bif decide (GI l at' k=0) then .tuple #[.int .u64 (numN ((l.drop at'.toNat).take k.toNat):Int),.int .i64 (at'+k),.int .i64 0] else .tuple #[.int .u64 0,.int .i64 0,.int .i64 (GI l at' k)]

set_option maxHeartbeats 1000000 in
theorem MU (a:Option Addr) (c m:Nat) (l:List UInt8) (at' k:Int) (w:World) (R:Rd w a 1 B8 l) (hml:l.length=m) (hm:m≤9223372036854775799) (hc:l.length≤c) :
  Ret Tryz.prog 145 #[.slice a m c,.int .i64 at',.int .i64 k] w fun v w'=>v=IF l at' k∧Ext [] w w':=by
 subst hml
 obtain ⟨w0,rfl⟩:∃ w0,w0=w:=⟨_,rfl⟩
 have H:=Ctx.start w0 []
 refine A1 (fn:=Tryz.f145) Tryz.func145 rfl [.slice a l.length c,.int .i64 at',.int .i64 k] rfl (by kernel_rfl) ?_
 refine Ag (Af rfl rfl (Af rfl rfl (Af rfl rfl (Ab (Aa (Aq (Au (Aq (Ag (Ad rfl rfl ?_))))))))))
 refine Ao rfl Wp (Oj k _) rfl ?_
 rintro v w ⟨rfl,hx⟩
 replace H:=H.call hx
 refine Bu rfl rfl (Ai rfl rfl (Ab (Aa (CT 11 rfl ?_ ?_))))
 ·intro h1
  replace h1:=Bp h1
  have he:GI l at' k=1:=by unfold GI; rw [h1]; rfl
  refine Av (Aa (CM rfl (Ag (Af rfl rfl (Af rfl rfl (Af rfl rfl (Ab (Aa (A9 (A4 (Al (DR (v1:=(.int _ _)) (v2:=(.int _ _)) (v3:=(.int _ _)) rfl rfl rfl rfl rfl ?_))))))))))))
  exact ⟨by rw [IF,he]; rfl,H.ext⟩
 ·intro h1
  replace h1:=Bq h1
  refine Ag (Ad rfl rfl (AN rfl rfl rfl (Ai rfl rfl (Ab (Aa (CT 11 rfl ?_ ?_))))))
  ·intro h2
   replace h2:=AF h2
   have he:GI l at' k=1:=by unfold GI; rw [decide_eq_false (show ¬ 0≤at' by omega),Bool.false_and,Bool.and_false]; rfl
   refine Av (Aa (CM rfl (Ag (Af rfl rfl (Af rfl rfl (Af rfl rfl (Ab (Aa (A9 (A4 (Al (DR (v1:=(.int _ _)) (v2:=(.int _ _)) (v3:=(.int _ _)) rfl rfl rfl rfl rfl ?_))))))))))))
   exact ⟨by rw [IF,he]; rfl,H.ext⟩
  ·intro h2
   replace h2:=AG h2
   refine Aw (Ad rfl rfl (An rfl rfl (AU rfl C9 rfl (C0 rfl rfl rfl (Ai rfl rfl (Ab (Aa (CT 11 rfl ?_ ?_))))))))
   ·intro h3
    replace h3:=AF h3
    have he:GI l at' k=1:=by unfold GI; rw [decide_eq_false (show ¬ at'≤(l.length:Int) by omega),Bool.and_false,Bool.and_false]; rfl
    refine Ag (Af rfl rfl (Af rfl rfl (Af rfl rfl (Ab (Aa (A9 (A4 (Al (DR (v1:=(.int _ _)) (v2:=(.int _ _)) (v3:=(.int _ _)) rfl rfl rfl rfl rfl ?_)))))))))
    exact ⟨by rw [IF,he]; rfl,H.ext⟩
   ·intro h3
    replace h3:=AG h3
    obtain ⟨q,rfl,hq1,hq8⟩:=QX h1
    obtain ⟨o,rfl⟩:∃ o:Nat,at'=o:=⟨at'.toNat,by omega⟩
    have hE:GI l (o:Int) (q:Int)=bif decide ((q:Int)≤(l.length:Int) - (o:Int)) then 0 else 5:=by
     unfold GI; rw [h1,decide_eq_true (show (0:Int)≤(o:Int) by omega),decide_eq_true (show (o:Int)≤(l.length:Int) by omega)]; rfl
    refine Ag (An rfl rfl (AU rfl C9 rfl (Ad rfl rfl (Bf rfl rfl rfl (by omega) (by omega) ?_))))
    refine Ad rfl rfl (AN rfl rfl rfl (Ai rfl rfl (Ab (Aa (Ax _ rfl ?_ ?_)))))
    ·intro h4
     replace h4:=AF h4
     rw [decide_eq_false (by omega)] at hE
     refine Ag (Af rfl rfl (Af rfl rfl (Af rfl rfl (Ab (Aa (A9 (A4 (Al (DR (v1:=(.int _ _)) (v2:=(.int _ _)) (v3:=(.int _ _)) rfl rfl rfl rfl rfl ?_)))))))))
     exact ⟨by rw [IF,hE]; rfl,H.ext⟩
    ·intro h4
     replace h4:=AG h4
     rw [decide_eq_true (by omega)] at hE
     have R':=((R.ext0 H.ext).cut o c hc).take q
     have hl:((l.drop o).take q).length=q:=by rw [List.length_take,List.length_drop]; omega
     refine Av (A5 (Aa (Ag (Ad rfl rfl (Ad rfl rfl (Ap rfl rfl rfl (by omega) (by omega) ?_))))))
     refine Af rfl rfl (Ab (Aa (Aq (Ag (An rfl rfl (Ad rfl rfl (Ad rfl rfl (Nj rfl C9 F1 rfl rfl rfl (by omega) (by omega) (by omega) ?_))))))))
     refine AU rfl C9 rfl (Ad rfl rfl (Ab (Aa (Au ?_))))
     rw [show ((o:Int)+(q:Int)).toNat - ((o:Int)).toNat=q by omega]
     refine Bi 70300024702016 (α:=Nat) (fun i=>[(36,.int .i64 i),(6,.int .u64 (numN (((l.drop o).take q).take i):Int))]) (fun i w'=>i≤q∧w=w') (fun i=>q - i) 0 rfl ?_ ?_ ?_
     ·exact ⟨rfl,rfl,trivial⟩
     ·exact ⟨Nat.zero_le _,rfl⟩
     ·rintro i j _ ⟨hi,rfl⟩
      refine Ag (AN rfl rfl rfl (Ab (Aa (Aq (Ax _ rfl ?_ ?_)))))
      ·intro h5
       replace h5:=AF h5
       obtain ⟨x,hx⟩:=AC (l:=(l.drop o).take q) (i:=i) (by omega)
       have hxb:=GH x
       have hlt:=Kp (((l.drop o).take q).take (i+1))
       have hst:=XU hx (by omega)
       refine Av (Aa (Aq (Au (Ag (AZ R' rfl C9 F1 rfl rfl (by omega) (by omega) (by omega) ?_)))))
       refine AX rfl ag_5 rfl (R'.one (f:=bv) hx) ?_
       refine Af rfl rfl (Ab (Aa (Aw (Ad rfl rfl (Me (n:=8) rfl rfl rfl (by omega) ?_)))))
       refine Ad rfl rfl (D3 rfl rfl Iz FH (by omega) (by omega) ?_)
       refine U2 rfl rfl rfl (Nat.mod_lt _ (by decide)) (by omega) ?_
       rw [hst]
       refine Af rfl rfl (Ab (A5 (Aa (Aw (Ap rfl rfl rfl (by omega) (by omega) ?_)))))
       refine Ad rfl rfl (Ab (Aa ?_))
       exact ⟨i+1,rfl,⟨rfl,rfl,trivial⟩,⟨by omega,rfl⟩,by omega⟩
      ·intro h5
       replace h5:=AG h5
       have hiq:i=q:=by omega
       subst hiq
       rw [show ((l.drop o).take i).take i=(l.drop o).take i from List.take_of_length_le (by omega)]
       refine Bd (Aj (Aj (AD (Aa (Ag (Ad rfl rfl (Ad rfl rfl (Af rfl rfl (Af rfl rfl (Af rfl rfl (Ab (Aa (A9 (DR (v1:=(.int _ _)) (v2:=(.int _ _)) (v3:=(.int _ _)) rfl rfl rfl rfl rfl ?_))))))))))))))
       exact ⟨by rw [IF,hE]; rfl,H.ext⟩

end Go.Proofs.YtapphbmlkdhnmaaGreat

/- Numbers of eight bytes, and a round's bytes (what they are; the function that puts a row of numbers). -/
namespace Go.Proofs.YtapphbmlkdhnmaaGreat
open Go.GV
attribute [local irreducible] A2 W Wq Wt

/-! ### Numbers as bytes -/
/-- A number of 64 bits without its sign. -/
def u64 (n:Int):Nat:=(n % 18446744073709551616).toNat
theorem F3 (n:Int):u64 n<18446744073709551616:=by unfold u64; omega
theorem JI {n:Int} (h0:0≤n) (h1:n<18446744073709551616):((u64 n:Nat):Int)=n:=by unfold u64; omega
theorem QY (n:Int):IntKind.u64.wrap n=((u64 n:Nat):Int):=by
 have h:IntKind.u64.wrap n=n % 18446744073709551616:=rfl
 rw [h]
 unfold u64
 omega
theorem Aal (l:List UInt8) (n:Nat):putB l n 8=l++BL n 8:=rfl
/-- Numbers of eight bytes each. -/
def D6 (l:List Int):List UInt8:=l.flatMap fun n=>BL (u64 n) 8
theorem QZ:D6 []=[]:=rfl
theorem KG (x:Int) (l:List Int):D6 (x::l)=BL (u64 x) 8++D6 l:=rfl
theorem Ra (l m:List Int):D6 (l++m)=D6 l++D6 m:=List.flatMap_append ..
theorem G4 (x:Int):D6 [x]=BL (u64 x) 8:=by rw [KG,QZ,List.append_nil]
theorem Ft:∀ l:List Int,(D6 l).length=8*l.length
 | []=>rfl
 | x::l=>by
  rw [KG,List.length_append,Df,Ft l,List.length_cons]
  omega
theorem Om {l:List Int} {i:Nat} {x:Int} (h:l[i]? = some x):D6 (l.take (i+1))=D6 (l.take i)++BL (u64 x) 8:=by
 rw [List.take_add_one,h,Ra]
 exact congrArg _ (G4 x)
/-- The byte of a number. -/
def by8 (n:Int):UInt8:=UInt8.ofNat (n % 256).toNat
theorem ZD (n:Int):Value.int .u8 (n % 256)=bv (by8 n):=by
 unfold by8
 have h:n % 256=(((n % 256).toNat % 256:Nat):Int):=by omega
 rw [h,Jg]
 congr 3
theorem LD (n:Int):Value.int .u8 (IntKind.u8.wrap n)=bv (by8 n):=by
 rw [← ZD]
 rfl

/-! ### A round's bytes -/
def eB (r:Rnd) (i:Nat) (e:Ed) (x:Int):List UInt8 :=
 if i<r.ids.length then BL (u64 (r.ids.getD i 0)) 8++[by8 e.f,by8 e.t]++BL (u64 e.cap) 8++BL (u64 (-e.cost)) 2++BL (u64 x) 8
 else if e.f=r.N - 1 then BL (u64 e.cap) 8++BL (u64 x) 8
 else BL (u64 x) 8
def esB (r:Rnd) (k:Nat):List UInt8:=(List.range k).flatMap fun i=>eB r i (r.es.getD i e0) (r.fl.getD i 0)
theorem IG {r:Rnd} {k:Nat} {e:Ed} {x:Int} (he:r.es[k]? = some e) (hx:r.fl[k]? = some x):esB r (k+1)=esB r k++eB r k e x:=by
 unfold esB
 rw [List.range_succ,List.flatMap_append,List.flatMap_singleton,Bn he,Bn hx]
theorem Ad2 (r:Rnd) (i:Nat) (e:Ed) (x:Int):(eB r i e x).length≤28:=by
 unfold eB
 split
 ·simp [Df]
 ·split <;> simp [Df]
theorem P0 (r:Rnd):∀ k,(esB r k).length≤28*k
 | 0=>by simp [esB]
 | k+1=>by
  have h1:=P0 r k
  unfold esB at h1 ⊢
  rw [List.range_succ,List.flatMap_append,List.flatMap_singleton,List.length_append]
  have:=Ad2 r k (r.es.getD k e0) (r.fl.getD k 0)
  omega
def gwit:List UInt8:=[71,87,73,84]
def B7 (r:Rnd):List UInt8:=gwit++BL (u64 r.no) 8++BL (u64 r.day) 8++[bif r.cmp then 1 else 0,by8 (r.N - 1),by8 r.ids.length]
theorem F5 (r:Rnd):(B7 r).length=23:=by simp [B7,gwit,Df]
def FO (r:Rnd):List UInt8:=B7 r++esB r r.es.length++D6 r.pot
/-- Four bytes of a word, the least first. -/
def leB (s k:Nat):List UInt8:=(List.range k).map fun i=>UInt8.ofNat (s / 2 ^ (8*i))
theorem Ug (s k:Nat):(leB s k).length=k:=by simp [leB]
theorem XV (s k:Nat):leB s (k+1)=leB s k++[UInt8.ofNat (s / 2 ^ (8*k))]:=by simp [leB,List.range_succ]
def Ca (r:Rnd):List UInt8:=FO r++leB (Px (FO r)).toNat 4

/-! ### The function that puts numbers -/
set_option maxHeartbeats 1000000 in
theorem Jh (a a2:Option Addr) (c c2 m:Nat) (bl:List UInt8) (l:List Int) (w:World) (R:Rd w a 1 B8 bl) (hm:bl.length=m) (hm2:m≤100000000) (R2:Rd w a2 1 I1 l) (n:Nat) (hn:l.length=n) (hl:n≤1000000) (h0:0<n) :
  Ret Tryz.prog 86 #[.slice a m c,.slice a2 n c2] w fun v w'=>Fresh w w' 5 1 v ((bl++D6 l).map bv):=by
 subst hm
 subst hn
 obtain ⟨w0,rfl⟩:∃ w0,w0=w:=⟨_,rfl⟩
 have H:=Ctx.start w0 []
 refine A1 (fn:=Tryz.f86) Tryz.func86 rfl [.slice a bl.length c,.slice a2 l.length c2] rfl (by kernel_rfl) ?_
 refine Ag (AJ rfl rfl (Ab (Aa (Aq (Ag (An rfl rfl (AU rfl AR rfl (Ad rfl rfl (Ab (Aa (Au ?_)))))))))))
 refine Bi 261697 (α:=Nat × Option Addr × Nat) (fun x=>[(9,.int .i64 (x.1:Int)),(0,.slice x.2.1 (bl.length+8*x.1) x.2.2)]) (fun x w'=>x.1≤l.length∧Ctx w0 [] w' []∧Rd w' x.2.1 1 B8 (bl++D6 (l.take x.1))∧(0<x.1→Fresh w0 w' 5 1 (.slice x.2.1 (bl.length+8*x.1) x.2.2) ((bl++D6 (l.take x.1)).map bv))) (fun x=>l.length - x.1) (0,a,c) rfl ?_ ?_ ?_
 ·exact ⟨rfl,rfl,trivial⟩
 ·exact ⟨Nat.zero_le _,H,by simpa [D6] using R,fun h=>absurd h (Nat.lt_irrefl 0)⟩
 ·clear H
  rintro ⟨i,ai,ci⟩ j w ⟨hi,H,Ri,Fi⟩; dsimp only at hi H Ri Fi; dsimp only
  refine Ag (AN rfl rfl rfl (Ab (Aa (Aq (Ax _ rfl ?_ ?_)))))
  ·intro h1
   replace h1:=AF h1
   obtain ⟨x,hx⟩:=AC (l:=l) (i:=i) (by omega)
   have hlen:(bl++D6 (l.take i)).length=bl.length+8*i:=by rw [List.length_append,Ft,List.length_take]; omega
   refine Av (Aa (Aq (Au (Ag (AZ R2 rfl AR B2 rfl rfl (by omega) (by omega) (by rfl) ?_)))))
   refine AX rfl Bw rfl (((R2.ext0 H.ext).fld hx rfl (j:=0) rfl)) ?_
   refine Af rfl rfl (Ab (Aa (Aw (An rfl rfl (Ad rfl rfl (Gi rfl rfl Sp FH ?_))))))
   rw [QY]
   refine Ao rfl T6 (Pz ai ci _ _ (u64 x) 8 _ Ri hlen (by omega) (F3 x)) rfl ?_
   rintro v w2 F0
   rw [Aal,List.append_assoc,← Om hx] at F0
   have F:=Fresh.since F0 H.ext
   obtain ⟨a9,c9,rfl,R9,-⟩:=Fresh.rdB F0
   have hlen2:(bl++D6 (l.take (i+1))).length=bl.length+8*(i+1):=by { rw [List.length_append,Ft,List.length_take]; omega }
   rw [hlen2] at F ⊢
   replace H:=H.call F0.ext
   refine AJ rfl rfl (Ab (A5 (Aa (Aw (Ap rfl rfl rfl (by omega) (by omega) ?_)))))
   refine Ad rfl rfl (Ab (Aa ?_))
   exact ⟨(i+1,a9,c9),rfl,⟨rfl,rfl,trivial⟩,⟨by omega,H,R9,fun _=>F⟩,by dsimp only; omega⟩
  ·intro h1
   replace h1:=AG h1
   obtain rfl:i=l.length:=by omega
   refine Bd (Aj (Aj (AD (Aa (Ag (An rfl rfl (AJ rfl rfl (Ab (Aa (A9 (AB (v:=(.slice _ _ _)) rfl rfl rfl ?_)))))))))))
   have:=Fi h0
   rw [List.take_length] at this
   exact this
end Go.Proofs.YtapphbmlkdhnmaaGreat

/- The function that puts a right round's bytes. -/
namespace Go.Proofs.YtapphbmlkdhnmaaGreat
open Go.GV
attribute [local irreducible] A2 W Wq Wt

/-- What a round's words hold. -/
structure WU (r:Rnd):Prop where
 no:0≤r.no∧r.no<18446744073709551616
 ids:∀ x∈r.ids,0≤x∧x<18446744073709551616
 day:r.day<9223372036854775808
theorem P5 {w:World} {b t:Nat} {x:Int} (h:w.heap[b]? = some (Bl t [.int .i64 x])):Rd w (some ⟨b,0,none⟩) 1 I1 [x] :=
 Rd.of_bl (xs:=[x]) (enc:=I1) (r:=[]) h rfl (by simp)
theorem XW {w:World} {b t:Nat} {x y:Int} (h:w.heap[b]? = some (Bl t [.int .i64 x,.int .i64 y])):Rd w (some ⟨b,0,none⟩) 1 I1 [x,y] :=
 Rd.of_bl (xs:=[x,y]) (enc:=I1) (r:=[]) h rfl (by simp)
theorem Ji {w0 w w':World} {S:List Nat} {L:List (Nat × Obj)} {a a':Option Addr} {t:TypeId} {f f':List Value} (H:Ctx w0 S w (L++ent a t f)) (hx:Ext [] w w') (hb:∀ x∈ent a' t f',w'.heap[x.1]? = some x.2∧w.heap.size≤x.1):Ctx w0 S w' (L++ent a' t f') :=
 Ctx.left (L:=L++ent a' t f') (L':=ent a t f) ((Ctx.callEnt H hx hb LY).perm (by rw [List.append_assoc,List.append_assoc]; exact List.Perm.append_left L List.perm_append_comm))
theorem esB0 (r:Rnd):esB r 0=[]:=rfl
theorem one3 (l:List UInt8):∀ v∈l.map bv,Bz v=true:=fun v hv=>by
 obtain ⟨x,-,rfl⟩:=List.mem_map.1 hv
 rfl
set_option maxRecDepth 20000 in
set_option maxHeartbeats 8000000 in
theorem LF (r:Rnd) (q:RSl) (w:World) (RA:RAt w r q) (hEc:r.es.length≤q.cE) (hr:RBnd r) (hu:WU r):Ret Tryz.prog 29 #[.agg (AH r q).toArray] w fun v w' =>
  (BA r=true→∃ s,v = .tuple #[s,.int .i64 0]∧Fresh w w' 5 1 s ((Ca r).map bv))∧(BA r=false→v = .tuple #[.slice none 0 0,.int .i64 1]∧Ext [] w w'):=by
 obtain ⟨w0,rfl⟩:∃ w0,w0=w:=⟨_,rfl⟩
 have H:=Ctx.start w0 []
 obtain ⟨wr,hwr⟩:∃ wr,wr=BA r:=⟨_,rfl⟩
 refine A1 (fn:=Tryz.f29) Tryz.func29 rfl [.agg (AH r q).toArray] rfl (by kernel_rfl) ?_
 refine Ag (Bs rfl (AH r q) (.agg _) rfl rfl H ?_)
 rintro b1 w - H
 refine AJ rfl rfl (Af rfl rfl (Ab (Aa (Aq (Ag (Bh rfl CQ C2 rfl H at0 rfl (Ao rfl Qp (Ht r q _ (RA.ext0 H.ext) hEc hr) rfl ?_)))))))
 rintro v w ⟨rfl,hx11⟩
 replace H:=H.call hx11
 rw [← hwr]
 refine Bu rfl rfl (Ab (Aa (Ax _ rfl ?_ ?_)))
 ·intro h1
  replace h1:=Bp h1
  refine Ag (AJ rfl rfl (Af rfl rfl (Ab (Aa (A9 (Al (DK (v1:=(.slice _ _ _)) (v2:=(.int _ _)) rfl rfl rfl rfl ?_)))))))
  have h1':BA r=false:=by rw [← hwr]; simpa using h1
  exact ⟨fun h=>(by rw [h1] at h; cases h),fun _=>⟨rfl,H.ext⟩⟩
 ·intro h1
  replace h1:=Bq h1
  have h1':BA r=true:=by rw [← hwr]; simpa using h1
  have WW:=Jv h1'
  have hN1:=WW.N1
  have hN17:=WW.N17
  have hd64:=WW.d64
  have he200:=WW.e200
  have hle:=WW.len
  have hpo:=WW.pot
  have RI:=RA.I
  have RE:=RA.E
  have RF:=RA.F
  have RP:=RA.P
  refine Av (Aa (Ag (Dm (gwit.map bv) rfl C9 F1 Kb (by decide) (by decide) (by kernel_rfl) H ?_)))
  rintro b13 w - H
  refine RV (l:=gwit) rfl C9 Iz rfl H at0 ?_
  rintro w H R13
  refine Ah rfl Pa rfl (AA rfl BK rfl H at1 rfl (Ao rfl T6 (Pz (some ⟨b13,0,none⟩) 4 4 gwit (u64 r.no) 8 _ R13 rfl (by decide) (F3 _)) (by rw [JI hu.no.1 hu.no.2]; rfl) ?_))
  rintro v w2 F
  rw [Aal] at F
  obtain ⟨a4,n4,c4,f4,rfl,O,hb4⟩:=F.ex
  obtain rfl:n4=(gwit++BL (u64 r.no) 8).length:=OS.num O
  replace H:Ctx w0 [] w2 ((b1,Bl 33 (AH r q))::ent a4 5 f4):=(Ctx.callEnt H F.ext hb4 LY).tail
  refine AJ rfl rfl (Ab (Aa (Ag (Af rfl rfl (Ab (Aa (Aq (Ag (Ah rfl IX rfl (AA rfl Hf rfl H at0 rfl (Ab (Aa ?_))))))))))))
  refine Em 32 (α:=Unit) (fun _=>[(5,bv (bif r.cmp then 1 else 0))]) (fun _ w'=>w'=w2) rfl ?_ ?_
  ·skip
   refine Ax _ rfl ?_ ?_
   ·intro h2
    refine Aw (Af rfl rfl (Ab (Aa ?_)))
    exact ⟨(),rfl,⟨by rw [h2]; rfl,trivial⟩,rfl⟩
   ·intro h2
    refine Av (Aa ?_)
    exact ⟨(),rfl,⟨by rw [h2]; rfl,trivial⟩,rfl⟩
  ·rintro - j5 w rfl
   refine Dw 34358689808 (α:=Option Addr × Nat × List Value) (fun z=>[(4,.slice z.1 (B7 r).length z.2.1)]) (fun z w'=>Ctx w0 [] w' ((b1,Bl 33 (AH r q))::ent z.1 5 z.2.2)∧OS z.1 (B7 r).length z.2.1 1 z.2.2 ((B7 r).map bv)) rfl ?_ ?_
   ·skip
    have hb1:=H.get at0
    have R4:Rd w a4 1 B8 (gwit++BL (u64 r.no) 8):=OS.rdB O fun x hx=>H.blk x (List.mem_cons_of_mem _ hx)
    refine Mq (n:=14) (N:=16) (anc:=Ln 14 [[],[],[1],[1,2],[0,1,2,3],[],[],[0,1,2,3,4,6],[0,1,2,3,4,6,7],[],[9],[9,10],[9,10,11],[0,1,2,3,4,5,6,7,8,9,10,11,12]]) (fun i=>20+i) [isV (.slice a4 (gwit++BL (u64 r.no) 8).length c4),isV (.pointer (some ⟨b1,1,none⟩)),isV (.int .i64 r.day),nbV 2 1 [.int .i64 r.day],frV w 5 1 (((gwit++BL (u64 r.no) 8)++D6 [r.day]).map bv),isV (bv (bif r.cmp then 1 else 0)),isV (.agg (AH r q).toArray),isV (.int .i64 (r.N - 1)),isV (bv (by8 (r.N - 1))),isV (.pointer (some ⟨b1,3,none⟩)),isV (.slice q.aI r.ids.length q.cI),isV (.int .i64 (r.ids.length:Int)),isV (bv (by8 r.ids.length)),nbV 5 3 [bv (bif r.cmp then 1 else 0),bv (by8 (r.N - 1)),bv (by8 r.ids.length)]] (show Tryz.prog.follows .mixedOrders=true by kernel_rfl) rfl (by decide) (by kernel_rfl) (Ey _) (fun i j _ _ h=>by have h:20+i=20+j:=h; omega) ⟨CK _,CK _,CK _,Mp _ _ _,Mo _ _ _ _,CK _,CK _,CK _,CK _,CK _,CK _,CK _,CK _,Mp _ _ _,trivial⟩ ?_ ?_
    ·intro m o e' w' hm ho hold hg hx
     have hin:∀ t:Nat,t<20→∀ j,j<14→t≠20+j:=fun t ht j hj=>by omega
     have hx0:Ext [] w w':=(Ext.drew [] w).trans hx
     have g1:e'.g 1=ptr b1:=(hold 1 (hin 1 (by decide))).trans rfl
     have g4:e'.g 4 = .slice a4 (gwit++BL (u64 r.no) 8).length c4:=(hold 4 (hin 4 (by decide))).trans rfl
     have hc1:w'.heap[b1]? = some (Bl 33 (AH r q)):=hx0.to hb1 (by simp)
     have g5:e'.g 5=bv (bif r.cmp then 1 else 0):=(hold 5 (hin 5 (by decide))).trans rfl
     have hcs:m=0∨m=1∨m=2∨m=3∨m=4∨m=5∨m=6∨m=7∨m=8∨m=9∨m=10∨m=11∨m=12∨m=13:=by omega
     rcases hcs with rfl | rfl | rfl | rfl | rfl | rfl | rfl | rfl | rfl | rfl | rfl | rfl | rfl | rfl
     ·cases Option.some.inj ho
      exact Cd rfl _ g4 (Ab ⟨_,.refl _ _,rfl,rfl⟩)
     ·cases Option.some.inj ho
      exact Ah (off:=1) rfl (by kernel_rfl) g1 (Ab ⟨_,.refl _ _,rfl,rfl⟩)
     ·cases Option.some.inj ho
      exact AX rfl Bw (hg 1 (by decide)) (by rw [Ay hc1]; rfl) (Ab ⟨_,.refl _ _,rfl,rfl⟩)
     ·cases Option.some.inj ho
      refine Dm [.int .i64 r.day] rfl AR B2 GP (by decide) (by decide) ?_ (Ctx.start w' []) ?_
      ·show Instr.fill _ _ [(0,e'.g 22)]=_
       rw [show e'.g 22 = .int .i64 r.day from (hg 2 (by decide))]
       kernel_rfl
      ·intro b w2 _ H
       exact Ab ⟨_,H.ext,rfl,b,rfl,H.get at0⟩
     ·cases Option.some.inj ho
      obtain ⟨b3,h3,hb3⟩:=hg 3 (by decide)
      refine Ao rfl NJ (Jh a4 (some ⟨b3,0,none⟩) c4 1 _ (gwit++BL (u64 r.no) 8) [r.day] _ (R4.ext0 hx0) rfl (by simp [gwit,Df]) (P5 hb3) 1 rfl (by decide) (by decide)) ?_ ?_
      ·show [e'.g 20,e'.g 23]=_
       rw [show e'.g 20 = .slice a4 (gwit++BL (u64 r.no) 8).length c4 from hg 0 (by decide),show e'.g 23 = .slice (some ⟨b3,0,none⟩) 1 1 from h3]
      ·intro v w2 F
       exact Ab ⟨_,F.ext,rfl,Fresh.since F hx0⟩
     ·cases Option.some.inj ho
      exact Cd rfl _ g5 (Ab ⟨_,.refl _ _,rfl,rfl⟩)
     ·cases Option.some.inj ho
      exact Cr (AH r q) rfl CQ C2 g1 rfl (CF (b:=b1) (t:=33) (l:=AH r q) hc1 0 (AH r q) rfl) (Ab ⟨_,.refl _ _,rfl,rfl⟩)
     ·cases Option.some.inj ho
      refine Ao rfl JZ (HY r q _ (by omega)) ?_ ?_
      ·show [e'.g 26]=_
       rw [show e'.g 26 = .agg (AH r q).toArray from hg 6 (by decide)]
      ·rintro v w2 ⟨rfl,h2⟩
       exact Ab ⟨_,h2,rfl,rfl⟩
     ·cases Option.some.inj ho
      exact Gi rfl (hg 7 (by decide)) Gu Iz (Ab ⟨_,.refl _ _,rfl,LD _⟩)
     ·cases Option.some.inj ho
      exact Ah (off:=3) rfl (by kernel_rfl) g1 (Ab ⟨_,.refl _ _,rfl,rfl⟩)
     ·cases Option.some.inj ho
      exact AX rfl Fm (hg 9 (by decide)) (by rw [Ay hc1]; rfl) (Ab ⟨_,.refl _ _,rfl,rfl⟩)
     ·cases Option.some.inj ho
      exact AU rfl Be (hg 10 (by decide)) (Ab ⟨_,.refl _ _,rfl,rfl⟩)
     ·cases Option.some.inj ho
      exact Gi rfl (hg 11 (by decide)) Gu Iz (Ab ⟨_,.refl _ _,rfl,LD _⟩)
     ·cases Option.some.inj ho
      refine Dm [bv (bif r.cmp then 1 else 0),bv (by8 (r.N - 1)),bv (by8 r.ids.length)] rfl C9 F1 Kb (by decide) (by decide) ?_ (Ctx.start w' []) ?_
      ·show Instr.fill _ _ [(0,e'.g 25),(1,e'.g 28),(2,e'.g 32)]=_
       rw [show e'.g 25=bv (bif r.cmp then 1 else 0) from (hg 5 (by decide)),show e'.g 28=bv (by8 (r.N - 1)) from (hg 8 (by decide)),show e'.g 32=bv (by8 r.ids.length) from (hg 12 (by decide))]
       kernel_rfl
      ·intro b w2 _ H
       exact Ab ⟨_,H.ext,rfl,b,rfl,H.get at0⟩
    ·intro e' w' hds hold hg hx
     have hx0:Ext [] w w':=(Ext.drew [] w).trans hx
     obtain ⟨b3,h3,hb3⟩:=hg 13 (by decide)
     have F:Fresh w w' 5 1 (e'.g 24) (((gwit++BL (u64 r.no) 8)++D6 [r.day]).map bv):=hg 4 (by decide)
     obtain ⟨a,n,c,full,h4,O4,hb4'⟩:=F.ex
     obtain rfl:=OS.num O4
     have H5:Ctx w0 [] w' ([(b1,Bl 33 (AH r q))]++ent a 5 full):=Ji (L:=[(b1,Bl 33 (AH r q))]) H F.ext hb4'
     refine DT rfl C9 C9 F1 Qo Kb rfl (by decide) ([(bif r.cmp then 1 else 0),by8 (r.N - 1),by8 r.ids.length].map bv) h4 h3 H5 O4 rfl (one3 _) (fun j v hv=>⟨_,rfl,by rw [Cx,Nat.zero_add,Ay hb3]; exact hv⟩) (by simp [gwit,Df,Ft]) fun a' c' full' w3 H6 O6=>?_
     refine BW rfl _ (Dt _ _ _) (Ab ?_)
     rw [← List.map_append] at O6
     have hlen:((gwit++BL (u64 r.no) 8++D6 [r.day]).length+3)=(B7 r).length:=by rw [G4]; simp only [B7,List.length_append,List.length_cons,List.length_nil]
     have hB:gwit++BL (u64 r.no) 8++D6 [r.day]++[(bif r.cmp then 1 else 0),by8 (r.N - 1),by8 r.ids.length]=B7 r:=by rw [G4]; rfl
     rw [hlen] at O6 ⊢
     rw [hB] at O6
     exact ⟨(a',c',full'),hds,⟨Dt _ _ _,trivial⟩,H6,O6⟩
   ·rintro ⟨a4,c4,f4⟩ j7 w ⟨H,O⟩; dsimp only at H O; dsimp only
    refine Aq (Ag (Ah rfl DG rfl (Ah rfl BU rfl (AA rfl CI rfl H at0 rfl (AU rfl Ce rfl (Ad rfl rfl (Ab (Aa (Au (Bi 2535301200456458802443650597328 (α:=Nat × Option Addr × Nat × List Value) (fun z=>[(39,.int .i64 (z.1:Int)),(4,.slice z.2.1 (B7 r++esB r z.1).length z.2.2.1)]) (fun z w'=>z.1≤r.es.length∧Ctx w0 [] w' ((b1,Bl 33 (AH r q))::ent z.2.1 5 z.2.2.2)∧OS z.2.1 (B7 r++esB r z.1).length z.2.2.1 1 z.2.2.2 ((B7 r++esB r z.1).map bv)) (fun z=>r.es.length - z.1) (0,a4,c4,f4) rfl ?_ ?_ ?_))))))))))
    ·exact ⟨rfl,by rw [esB0,List.append_nil]; rfl,trivial⟩
    ·exact ⟨Nat.zero_le _,H,by dsimp only; rw [esB0,List.append_nil]; exact O⟩
    ·clear H O
     rintro ⟨i,a4,c4,f4⟩ j w ⟨hi,H,O⟩; dsimp only at hi H O; dsimp only
     refine Ag (AN rfl rfl rfl (Ab (Aa (Aq (Ax _ rfl ?_ ?_)))))
     ·intro h2
      replace h2:=AF h2
      obtain ⟨e,he⟩:=AC (l:=r.es) (i:=i) (by omega)
      obtain ⟨x,hxx⟩:=AC (l:=r.fl) (i:=i) (by omega)
      have hst:=IG he hxx
      have hbs:(B7 r++esB r i).length≤6000:=by have:=P0 r i; rw [List.length_append,F5]; omega
      have hed:=CN ((BR (BE WW.wi).2.1).2.2.2.1 e (List.mem_of_getElem? he))
      refine Av (Aa (Aq (Au (Ag (Ad rfl rfl (AZ RE rfl Ce BC rfl rfl (by omega) (by omega) (by rfl) ?_))))))
      refine Cr _ rfl DX BC rfl rfl (((RE.ext0 H.ext).row he rfl)) ?_
      refine Bm rfl DH H ?_
      rintro b7 w - H
      refine Af rfl rfl (BD rfl BC rfl rfl rfl (by exact Dk _) H at0 rfl ?_)
      rintro w H
      refine Ab (Aa (Ag (Ah rfl Ep rfl (Ah rfl Fp rfl (AA rfl BF rfl H at1 rfl (Ad rfl rfl (AZ RF rfl AR B2 rfl rfl (by omega) (by omega) (by rfl) ?_)))))))
      refine AX rfl Bw rfl (((RF.ext0 H.ext).fld hxx rfl (j:=0) rfl)) ?_
      refine Af rfl rfl (Ab (Aa (Au (Ag (Ad rfl rfl (Ah rfl ED rfl (AA rfl Fm rfl H at1 rfl (AU rfl Be rfl (AN rfl rfl rfl (Ai rfl rfl ?_))))))))))
      refine Ab (Aa (Ax _ rfl ?_ ?_))
      ·intro h3
       replace h3:=AF h3
       obtain ⟨id,hid0⟩:=AC (l:=r.ids) (i:=i) (by omega)
       have hid:=hu.ids id (List.mem_of_getElem? hid0)
       have hde:=Pw (WW.due i e (by omega) he)
       refine Dw 37777778941452554862608 (α:=Option Addr × Nat × List Value) (fun z=>[(4,.slice z.1 (B7 r++esB r i++BL (u64 id) 8++[by8 e.f,by8 e.t]).length z.2.1)]) (fun z w'=>Ctx w0 [] w' ((b7,Bl 92 (Bv e))::(b1,Bl 33 (AH r q))::ent z.1 5 z.2.2)∧OS z.1 (B7 r++esB r i++BL (u64 id) 8++[by8 e.f,by8 e.t]).length z.2.1 1 z.2.2 ((B7 r++esB r i++BL (u64 id) 8++[by8 e.f,by8 e.t]).map bv)) rfl ?_ ?_
       ·skip
        have hb1:=H.get at1
        have hb7:=H.get at0
        have R4:Rd w a4 1 B8 (B7 r++esB r i):=OS.rdB O fun x hx=>H.blk x (List.mem_cons_of_mem _ (List.mem_cons_of_mem _ hx))
        refine Mq (n:=14) (N:=16) (anc:=Ln 14 [[],[],[1],[],[1,2,3],[1,2,3,4],[0,1,2,3,4,5],[],[7],[7,8],[],[10],[10,11],[7,8,9,10,11,12]]) (fun i=>60+i) [isV (.slice a4 (B7 r++esB r i).length c4),isV (.pointer (some ⟨b1,3,none⟩)),isV (.slice q.aI r.ids.length q.cI),isV (.int .i64 (i:Int)),isV (.pointer (some ⟨(adr q.aI).block,(adr q.aI).off+i*1,none⟩)),isV (Fb id),frV w 5 1 (((B7 r++esB r i)++BL (u64 id) 8).map bv),isV (.pointer (some ⟨b7,0,none⟩)),isV (.int .i64 e.f),isV (bv (by8 e.f)),isV (.pointer (some ⟨b7,1,none⟩)),isV (.int .i64 e.t),isV (bv (by8 e.t)),nbV 5 2 [bv (by8 e.f),bv (by8 e.t)]] (show Tryz.prog.follows .mixedOrders=true by kernel_rfl) rfl (by decide) (by kernel_rfl) (Ey _) (fun i j _ _ h=>by have h:60+i=60+j:=h; omega) ⟨CK _,CK _,CK _,CK _,CK _,CK _,Mo _ _ _ _,CK _,CK _,CK _,CK _,CK _,CK _,Mp _ _ _,trivial⟩ ?_ ?_
        ·intro m o e' w' hm ho hold hg hx
         have hin:∀ t:Nat,t<60→∀ j,j<14→t≠60+j:=fun t ht j hj=>by omega
         have hx0:Ext [] w w':=(Ext.drew [] w).trans hx
         have g1:e'.g 1=ptr b1:=(hold 1 (hin 1 (by decide))).trans rfl
         have g4:e'.g 4 = .slice a4 (B7 r++esB r i).length c4:=(hold 4 (hin 4 (by decide))).trans rfl
         have hc1:w'.heap[b1]? = some (Bl 33 (AH r q)):=hx0.to hb1 (by simp)
         have g6:e'.g 6 = .int .i64 (i:Int):=(hold 6 (hin 6 (by decide))).trans rfl
         have g7:e'.g 7=ptr b7:=(hold 7 (hin 7 (by decide))).trans rfl
         have hc7:w'.heap[b7]? = some (Bl 92 (Bv e)):=hx0.to hb7 (by simp)
         have hcs:m=0∨m=1∨m=2∨m=3∨m=4∨m=5∨m=6∨m=7∨m=8∨m=9∨m=10∨m=11∨m=12∨m=13:=by omega
         rcases hcs with rfl | rfl | rfl | rfl | rfl | rfl | rfl | rfl | rfl | rfl | rfl | rfl | rfl | rfl
         ·cases Option.some.inj ho
          exact Cd rfl _ g4 (Ab ⟨_,.refl _ _,rfl,rfl⟩)
         ·cases Option.some.inj ho
          exact Ah (off:=3) rfl (by kernel_rfl) g1 (Ab ⟨_,.refl _ _,rfl,rfl⟩)
         ·cases Option.some.inj ho
          exact AX rfl Fm (hg 1 (by decide)) (by rw [Ay hc1]; rfl) (Ab ⟨_,.refl _ _,rfl,rfl⟩)
         ·cases Option.some.inj ho
          exact Cd rfl _ g6 (Ab ⟨_,.refl _ _,rfl,rfl⟩)
         ·cases Option.some.inj ho
          exact AZ RI rfl Be AY (hg 2 (by decide)) (hg 3 (by decide)) (by omega) (by omega) rfl (Ab ⟨_,.refl _ _,rfl,rfl⟩)
         ·cases Option.some.inj ho
          exact AX rfl BK (hg 4 (by decide)) ((RI.ext0 (H.ext.trans hx0)).fld hid0 rfl (j:=0) rfl) (Ab ⟨_,.refl _ _,rfl,rfl⟩)
         ·cases Option.some.inj ho
          refine Ao rfl T6 (Pz a4 c4 _ (B7 r++esB r i) (u64 id) 8 _ (R4.ext0 hx0) rfl (by omega) (F3 _)) ?_ ?_
          ·show [e'.g 60,e'.g 65,.int .i64 8]=_
           rw [show e'.g 60 = .slice a4 (B7 r++esB r i).length c4 from hg 0 (by decide),show e'.g 65=Fb id from hg 5 (by decide),JI hid.1 hid.2]
           rfl
          ·intro v w2 F
           exact Ab ⟨_,F.ext,rfl,Fresh.since F hx0⟩
         ·cases Option.some.inj ho
          exact Ah (off:=0) rfl (by kernel_rfl) g7 (Ab ⟨_,.refl _ _,rfl,rfl⟩)
         ·cases Option.some.inj ho
          exact AX rfl BH (hg 7 (by decide)) (by rw [Ay hc7]; rfl) (Ab ⟨_,.refl _ _,rfl,rfl⟩)
         ·cases Option.some.inj ho
          exact Gi rfl (hg 8 (by decide)) Gu Iz (Ab ⟨_,.refl _ _,rfl,LD _⟩)
         ·cases Option.some.inj ho
          exact Ah (off:=1) rfl (by kernel_rfl) g7 (Ab ⟨_,.refl _ _,rfl,rfl⟩)
         ·cases Option.some.inj ho
          exact AX rfl BH (hg 10 (by decide)) (by rw [Ay hc7]; rfl) (Ab ⟨_,.refl _ _,rfl,rfl⟩)
         ·cases Option.some.inj ho
          exact Gi rfl (hg 11 (by decide)) Gu Iz (Ab ⟨_,.refl _ _,rfl,LD _⟩)
         ·cases Option.some.inj ho
          refine Dm [bv (by8 e.f),bv (by8 e.t)] rfl C9 F1 Kb (by decide) (by decide) ?_ (Ctx.start w' []) ?_
          ·show Instr.fill _ _ [(0,e'.g 69),(1,e'.g 72)]=_
           rw [show e'.g 69=bv (by8 e.f) from (hg 9 (by decide)),show e'.g 72=bv (by8 e.t) from (hg 12 (by decide))]
           kernel_rfl
          ·intro b w2 _ H
           exact Ab ⟨_,H.ext,rfl,b,rfl,H.get at0⟩
        ·intro e' w' hds hold hg hx
         have hx0:Ext [] w w':=(Ext.drew [] w).trans hx
         obtain ⟨b3,h3,hb3⟩:=hg 13 (by decide)
         have F:Fresh w w' 5 1 (e'.g 66) (((B7 r++esB r i)++BL (u64 id) 8).map bv):=hg 6 (by decide)
         obtain ⟨a,n,c,full,h4,O4,hb4'⟩:=F.ex
         obtain rfl:=OS.num O4
         have H5:Ctx w0 [] w' ([(b7,Bl 92 (Bv e)),(b1,Bl 33 (AH r q))]++ent a 5 full):=Ji (L:=[(b7,Bl 92 (Bv e)),(b1,Bl 33 (AH r q))]) H F.ext hb4'
         refine DT rfl C9 C9 F1 Qo Kb rfl (by decide) ([by8 e.f,by8 e.t].map bv) h4 h3 H5 O4 rfl (one3 _) (fun j v hv=>⟨_,rfl,by rw [Cx,Nat.zero_add,Ay hb3]; exact hv⟩) (by rw [List.length_append,Df]; omega) fun a' c' full' w3 H6 O6=>?_
         refine BW rfl _ (Dt _ _ _) (Ab ?_)
         rw [← List.map_append] at O6
         have hlen:((B7 r++esB r i)++BL (u64 id) 8).length+2=(B7 r++esB r i++BL (u64 id) 8++[by8 e.f,by8 e.t]).length:=by simp only [List.length_append,List.length_cons,List.length_nil]
         rw [hlen] at O6 ⊢
         exact ⟨(a',c',full'),hds,⟨Dt _ _ _,trivial⟩,H6,O6⟩
       ·rintro ⟨a4,c4,f4⟩ j14 w ⟨H,O⟩; dsimp only at H O; dsimp only
        have hb2:(B7 r++esB r i++BL (u64 id) 8++[by8 e.f,by8 e.t]).length≤6010:=by simp only [List.length_append,Df,List.length_cons,List.length_nil] at hbs ⊢; omega
        have hfin:(B7 r++esB r i++BL (u64 id) 8++[by8 e.f,by8 e.t])++D6 [e.cap]++BL (u64 (-e.cost)) 2++D6 [x]=B7 r++esB r (i+1):=by
         rw [hst]
         unfold eB
         rw [if_pos (by omega),Bn hid0,G4,G4]
         simp only [List.append_assoc]
        refine OQ 309447230889482111563071504 (α:=Option Addr × Nat × List Value) (fun z=>[(4,.slice z.1 (B7 r++esB r (i+1)).length z.2.1)]) (fun z w'=>Ctx w0 [] w' ((b7,Bl 92 (Bv e))::(b1,Bl 33 (AH r q))::ent z.1 5 z.2.2)∧OS z.1 (B7 r++esB r (i+1)).length z.2.1 1 z.2.2 ((B7 r++esB r (i+1)).map bv)) rfl ?_ ?_
        ·skip
         have hb7:=H.get at0
         have R4:Rd w a4 1 B8 (B7 r++esB r i++BL (u64 id) 8++[by8 e.f,by8 e.t]):=OS.rdB O fun x hx=>H.blk x (List.mem_cons_of_mem _ (List.mem_cons_of_mem _ hx))
         refine Mq (n:=13) (N:=14) (anc:=Ln 13 [[],[],[1],[1,2],[0,1,2,3],[],[5],[5,6],[5,6,7],[0,1,2,3,4,5,6,7,8],[],[10],[0,1,2,3,4,5,6,7,8,9,10,11]]) (fun i=>75+i) [isV (.slice a4 ((B7 r++esB r i)++BL (u64 id) 8++[by8 e.f,by8 e.t]).length c4),isV (.pointer (some ⟨b7,2,none⟩)),isV (.int .i64 e.cap),nbV 2 1 [.int .i64 e.cap],frV w 5 1 ((((B7 r++esB r i)++BL (u64 id) 8++[by8 e.f,by8 e.t])++D6 [e.cap]).map bv),isV (.pointer (some ⟨b7,3,none⟩)),isV (.int .i64 e.cost),isV (.int .i64 (-e.cost)),isV (.int .u64 ((u64 (-e.cost):Nat):Int)),frV w 5 1 ((((B7 r++esB r i)++BL (u64 id) 8++[by8 e.f,by8 e.t])++D6 [e.cap]++BL (u64 (-e.cost)) 2).map bv),isV (.int .i64 x),nbV 2 1 [.int .i64 x],frV w 5 1 ((((B7 r++esB r i)++BL (u64 id) 8++[by8 e.f,by8 e.t])++D6 [e.cap]++BL (u64 (-e.cost)) 2++D6 [x]).map bv)] (show Tryz.prog.follows .mixedOrders=true by kernel_rfl) rfl (by decide) (by kernel_rfl) (Ey _) (fun i j _ _ h=>by have h:75+i=75+j:=h; omega) ⟨CK _,CK _,CK _,Mp _ _ _,Mo _ _ _ _,CK _,CK _,CK _,CK _,Mo _ _ _ _,CK _,Mp _ _ _,Mo _ _ _ _,trivial⟩ ?_ ?_
         ·intro m o e' w' hm ho hold hg hx
          have hin:∀ t:Nat,t<75→∀ j,j<13→t≠75+j:=fun t ht j hj=>by omega
          have hx0:Ext [] w w':=(Ext.drew [] w).trans hx
          have g4:e'.g 4 = .slice a4 ((B7 r++esB r i)++BL (u64 id) 8++[by8 e.f,by8 e.t]).length c4:=(hold 4 (hin 4 (by decide))).trans rfl
          have g7:e'.g 7=ptr b7:=(hold 7 (hin 7 (by decide))).trans rfl
          have g8:e'.g 8 = .int .i64 x:=(hold 8 (hin 8 (by decide))).trans rfl
          have hc7:w'.heap[b7]? = some (Bl 92 (Bv e)):=hx0.to hb7 (by simp)
          have hcs:m=0∨m=1∨m=2∨m=3∨m=4∨m=5∨m=6∨m=7∨m=8∨m=9∨m=10∨m=11∨m=12:=by omega
          rcases hcs with rfl | rfl | rfl | rfl | rfl | rfl | rfl | rfl | rfl | rfl | rfl | rfl | rfl
          ·cases Option.some.inj ho
           exact Cd rfl _ g4 (Ab ⟨_,.refl _ _,rfl,rfl⟩)
          ·cases Option.some.inj ho
           exact Ah (off:=2) rfl (by kernel_rfl) g7 (Ab ⟨_,.refl _ _,rfl,rfl⟩)
          ·cases Option.some.inj ho
           exact AX rfl Bw (hg 1 (by decide)) (by rw [Ay hc7]; rfl) (Ab ⟨_,.refl _ _,rfl,rfl⟩)
          ·cases Option.some.inj ho
           refine Dm [.int .i64 e.cap] rfl AR B2 GP (by decide) (by decide) ?_ (Ctx.start w' []) ?_
           ·show Instr.fill _ _ [(0,e'.g 77)]=_
            rw [show e'.g 77 = .int .i64 e.cap from (hg 2 (by decide))]
            kernel_rfl
           ·intro b w2 _ H
            exact Ab ⟨_,H.ext,rfl,b,rfl,H.get at0⟩
          ·cases Option.some.inj ho
           obtain ⟨b3,h3,hb3⟩:=hg 3 (by decide)
           refine Ao rfl NJ (Jh a4 (some ⟨b3,0,none⟩) c4 1 _ ((B7 r++esB r i)++BL (u64 id) 8++[by8 e.f,by8 e.t]) [e.cap] _ (R4.ext0 hx0) rfl (by omega) (P5 hb3) 1 rfl (by decide) (by decide)) ?_ ?_
           ·show [e'.g 75,e'.g 78]=_
            rw [show e'.g 75 = .slice a4 ((B7 r++esB r i)++BL (u64 id) 8++[by8 e.f,by8 e.t]).length c4 from hg 0 (by decide),show e'.g 78 = .slice (some ⟨b3,0,none⟩) 1 1 from h3]
           ·intro v w2 F
            exact Ab ⟨_,F.ext,rfl,Fresh.since F hx0⟩
          ·cases Option.some.inj ho
           exact Ah (off:=3) rfl (by kernel_rfl) g7 (Ab ⟨_,.refl _ _,rfl,rfl⟩)
          ·cases Option.some.inj ho
           exact AX rfl Bw (hg 5 (by decide)) (by rw [Ay hc7]; rfl) (Ab ⟨_,.refl _ _,rfl,rfl⟩)
          ·cases Option.some.inj ho
           exact EN rfl (hg 6 (by decide)) (by omega) (by omega) (Ab ⟨_,.refl _ _,rfl,rfl⟩)
          ·cases Option.some.inj ho
           exact Gi rfl (hg 7 (by decide)) Sp FH (Ab ⟨_,.refl _ _,rfl,congrArg (Value.int .u64) (QY _)⟩)
          ·cases Option.some.inj ho
           have F4:Fresh w w' 5 1 (e'.g 79) ((((B7 r++esB r i)++BL (u64 id) 8++[by8 e.f,by8 e.t])++D6 [e.cap]).map bv):=hg 4 (by decide)
           obtain ⟨a9,c9,h9,R9,-⟩:=Fresh.rdB F4
           refine Ao rfl T6 (Pz a9 c9 _ (((B7 r++esB r i)++BL (u64 id) 8++[by8 e.f,by8 e.t])++D6 [e.cap]) (u64 (-e.cost)) 2 _ R9 rfl (by rw [List.length_append,Ft,List.length_singleton]; omega) (F3 _)) ?_ ?_
           ·show [e'.g 79,e'.g 83,.int .i64 2]=_
            rw [h9,show e'.g 83 = .int .u64 ((u64 (-e.cost):Nat):Int) from hg 8 (by decide)]
           ·intro v w2 F
            exact Ab ⟨_,F.ext,rfl,Fresh.since F hx0⟩
          ·cases Option.some.inj ho
           exact Cd rfl _ g8 (Ab ⟨_,.refl _ _,rfl,rfl⟩)
          ·cases Option.some.inj ho
           refine Dm [.int .i64 x] rfl AR B2 GP (by decide) (by decide) ?_ (Ctx.start w' []) ?_
           ·show Instr.fill _ _ [(0,e'.g 85)]=_
            rw [show e'.g 85 = .int .i64 x from (hg 10 (by decide))]
            kernel_rfl
           ·intro b w2 _ H
            exact Ab ⟨_,H.ext,rfl,b,rfl,H.get at0⟩
          ·cases Option.some.inj ho
           have F9:Fresh w w' 5 1 (e'.g 84) ((((B7 r++esB r i)++BL (u64 id) 8++[by8 e.f,by8 e.t])++D6 [e.cap]++BL (u64 (-e.cost)) 2).map bv):=hg 9 (by decide)
           obtain ⟨a9,c9,h9,R9,-⟩:=Fresh.rdB F9
           obtain ⟨b3,h3,hb3⟩:=hg 11 (by decide)
           refine Ao rfl NJ (Jh a9 (some ⟨b3,0,none⟩) c9 1 _ (((B7 r++esB r i)++BL (u64 id) 8++[by8 e.f,by8 e.t])++D6 [e.cap]++BL (u64 (-e.cost)) 2) [x] _ R9 rfl (by rw [List.length_append,Df,List.length_append,Ft,List.length_singleton]; omega) (P5 hb3) 1 rfl (by decide) (by decide)) ?_ ?_
           ·show [e'.g 84,e'.g 86]=_
            rw [h9,show e'.g 86 = .slice (some ⟨b3,0,none⟩) 1 1 from h3]
           ·intro v w2 F
            exact Ab ⟨_,F.ext,rfl,Fresh.since F hx0⟩
         ·intro e' w' hds hold hg hx
          have F:Fresh w w' 5 1 (e'.g 87) (((B7 r++esB r i++BL (u64 id) 8++[by8 e.f,by8 e.t])++D6 [e.cap]++BL (u64 (-e.cost)) 2++D6 [x]).map bv):=hg 12 (by decide)
          rw [hfin] at F
          obtain ⟨a,n,c,full,h4,O4,hb4'⟩:=F.ex
          obtain rfl:=OS.num O4
          have H5:Ctx w0 [] w' ([(b7,Bl 92 (Bv e)),(b1,Bl 33 (AH r q))]++ent a 5 full):=Ji (L:=[(b7,Bl 92 (Bv e)),(b1,Bl 33 (AH r q))]) H F.ext hb4'
          refine BW rfl _ h4 (Ab ?_)
          exact ⟨rfl,(a,c,full),hds,⟨Dt _ _ _,trivial⟩,H5,O4⟩
        ·rintro ⟨a4,c4,f4⟩ j15 w ⟨H,O⟩; dsimp only at H O; dsimp only
         refine A5 (A5 (Aa (Aw (Ap rfl rfl rfl (by omega) (by omega) ?_))))
         refine Ad rfl rfl (Ab (Aa ?_))
         exact ⟨(i+1,a4,c4,f4),rfl,⟨rfl,rfl,trivial⟩,⟨by omega,H.tail,O⟩,by dsimp only; omega⟩
      ·intro h3
       replace h3:=AG h3
       have hb1:=H.get at1
       have hb7:=H.get at0
       have HG:=H
       obtain ⟨w1,rfl⟩:∃ z,z=w:=⟨_,rfl⟩
       clear H
       have H:=Ctx.start w1 []
       refine CZ [([0,1,2],3),([4],5)] (fun z=>Ext [] w1 z) [] B3 (by kernel_rfl) (Ext.drew [] w1) ?_
       refine Ba rfl rfl ?_
       refine AV rfl Dp rfl (Ck rfl BH rfl (fun _ hx=>(by rw [Ay (hx.to hb7 (by simp))]; rfl)) ?_)
       refine Gl _ rfl CQ C2 rfl rfl (fun _ hx=>(CF (b:=b1) (t:=33) (l:=AH r q) (hx.to hb1 (by simp)) 0 (AH r q) rfl)) ?_
       refine BJ ?_
       replace H:=H.drew
       refine Ao rfl JZ (HY r q _ (by omega)) rfl ?_
       rintro v w ⟨rfl,hx92⟩
       replace H:=H.call hx92
       refine Ab (CX (H.ext) (Ba rfl rfl ?_))
       refine t_eql rfl rfl rfl (BJ (Ai rfl rfl (Ab (CX (H.ext) (Ch (Ax _ rfl ?_ ?_))))))
       ·intro h4
        replace h4:=AF h4
        replace H:=HG.call H.ext
        have R4:=OS.rdB O fun x hx=>H.blk x (List.mem_cons_of_mem _ (List.mem_cons_of_mem _ hx))
        refine Aw (An rfl rfl (Ah rfl CU rfl (AA rfl Bw rfl H at0 rfl (Ad rfl rfl ?_))))
        have H0:=H
        replace H:=Ctx.start w []
        refine Dm [.int .i64 e.cap,.int .i64 x] rfl AR B2 GP (by decide) (by decide) (by kernel_rfl) H ?_
        rintro b98 w2 - H
        have hb98:=H.get at0
        replace H:=H0.call H.ext
        refine Ao rfl NJ (Jh a4 (some ⟨b98,0,none⟩) c4 2 _ (B7 r++esB r i) [e.cap,x] _ (OS.rdB O fun x hx=>H.blk x (List.mem_cons_of_mem _ (List.mem_cons_of_mem _ hx))) rfl (by omega) (XW hb98) 2 rfl (by decide) (by decide)) rfl ?_
        rintro v w3 F
        have hE:(B7 r++esB r i)++D6 [e.cap,x]=B7 r++esB r (i+1):=by { rw [hst]; unfold eB; rw [if_neg (by omega),if_pos h4,KG,G4,List.append_assoc] }
        rw [hE] at F
        obtain ⟨a9,n9,c9,f9,rfl,O9,hb9⟩:=F.ex
        obtain rfl:=OS.num O9
        replace H:Ctx w0 [] w3 ([(b7,Bl 92 (Bv e)),(b1,Bl 33 (AH r q))]++ent a9 5 f9):=Ji (L:=[(b7,Bl 92 (Bv e)),(b1,Bl 33 (AH r q))]) H F.ext hb9
        refine AJ rfl rfl (Ab (A5 (A5 (Aa (Aw (Ap rfl rfl rfl (by omega) (by omega) ?_))))))
        refine Ad rfl rfl (Ab (Aa ?_))
        exact ⟨(i+1,a9,c9,f9),rfl,⟨rfl,rfl,trivial⟩,⟨by omega,H.tail,O9⟩,by dsimp only; omega⟩
       ·intro h4
        replace h4:=AG h4
        replace H:=HG.call H.ext
        refine Aw (An rfl rfl (Ad rfl rfl ?_))
        have H0:=H
        replace H:=Ctx.start w []
        refine Dm [.int .i64 x] rfl AR B2 GP (by decide) (by decide) (by kernel_rfl) H ?_
        rintro b52 w2 - H
        have hb52:=H.get at0
        replace H:=H0.call H.ext
        refine Ao rfl NJ (Jh a4 (some ⟨b52,0,none⟩) c4 1 _ (B7 r++esB r i) [x] _ (OS.rdB O fun x hx=>H.blk x (List.mem_cons_of_mem _ (List.mem_cons_of_mem _ hx))) rfl (by omega) (P5 hb52) 1 rfl (by decide) (by decide)) rfl ?_
        rintro v w3 F
        have hE:(B7 r++esB r i)++D6 [x]=B7 r++esB r (i+1):=by { rw [hst]; unfold eB; rw [if_neg (by omega),if_neg h4,G4,List.append_assoc] }
        rw [hE] at F
        obtain ⟨a9,n9,c9,f9,rfl,O9,hb9⟩:=F.ex
        obtain rfl:=OS.num O9
        replace H:Ctx w0 [] w3 ([(b7,Bl 92 (Bv e)),(b1,Bl 33 (AH r q))]++ent a9 5 f9):=Ji (L:=[(b7,Bl 92 (Bv e)),(b1,Bl 33 (AH r q))]) H F.ext hb9
        refine AJ rfl rfl (Ab (A5 (A5 (Aa (Aw (Ap rfl rfl rfl (by omega) (by omega) ?_))))))
        refine Ad rfl rfl (Ab (Aa ?_))
        exact ⟨(i+1,a9,c9,f9),rfl,⟨rfl,rfl,trivial⟩,⟨by omega,H.tail,O9⟩,by dsimp only; omega⟩
     ·intro h2
      replace h2:=AG h2
      obtain rfl:i=r.es.length:=by omega
      have hbs:(B7 r++esB r r.es.length).length≤6000:=by have:=P0 r r.es.length; rw [List.length_append,F5]; omega
      have hpl:0<r.pot.length:=by omega
      have hbl:(FO r).length≤6200:=by unfold FO; rw [List.length_append,Ft]; omega
      have hnat:UInt32.size=4294967296:=rfl
      refine Bd (Aj (Aj (AD (Aa (Ag (An rfl rfl (Ah rfl Ep rfl (Ah rfl F7 rfl (AA rfl BF rfl H at0 rfl (Ao rfl NJ (Jh a4 q.aP c4 q.cP _ (B7 r++esB r r.es.length) r.pot _ (OS.rdB O fun x hx=>H.blk x (List.mem_cons_of_mem _ hx)) rfl (by omega) (RP.ext0 H.ext) _ rfl (by omega) hpl) rfl ?_))))))))))
      rintro v w3 F
      rw [show B7 r++esB r r.es.length++D6 r.pot=FO r from rfl] at F
      obtain ⟨a4,n4,c4,f4,rfl,O,hb4⟩:=F.ex
      obtain rfl:=OS.num O
      replace H:Ctx w0 [] w3 ([(b1,Bl 33 (AH r q))]++ent a4 5 f4):=Ji (L:=[(b1,Bl 33 (AH r q))]) H F.ext hb4
      refine AJ rfl rfl (Ab (Aa (Ag (An rfl rfl (Ao rfl ZY (XS a4 c4 _ (FO r) _ (OS.rdB O fun x hx=>H.blk x (List.mem_cons_of_mem _ hx)) rfl (by omega)) rfl ?_)))))
      rintro v w ⟨rfl,rfl⟩
      refine Af rfl rfl (Ab (Aa (Aq (Ag (Ad rfl rfl (Ab (Aa (Au ?_))))))))
      obtain ⟨s,hs⟩:∃ s,s=(Px (FO r)).toNat:=⟨_,rfl⟩
      have hs32:s<4294967296:=by rw [hs]; exact Ko _
      rw [← hs]
      refine Bi 331982480392570541499168609049510416 (α:=Nat × Option Addr × Nat × List Value) (fun z=>[(108,.int .i64 (z.1:Int)),(9,.int .u32 ((s / 2 ^ (8*z.1):Nat):Int)),(4,.slice z.2.1 ((FO r).length+z.1) z.2.2.1)]) (fun z w'=>z.1≤4∧Ctx w0 [] w' ((b1,Bl 33 (AH r q))::ent z.2.1 5 z.2.2.2)∧OS z.2.1 ((FO r).length+z.1) z.2.2.1 1 z.2.2.2 ((FO r++leB s z.1).map bv)) (fun z=>4 - z.1) (0,a4,c4,f4) rfl ?_ ?_ ?_
      ·exact ⟨rfl,by simp; rfl,rfl,trivial⟩
      ·exact ⟨Nat.zero_le _,H,by simpa [leB] using O⟩
      ·clear H O
       rintro ⟨k,a4,c4,f4⟩ j w ⟨hk,H,O⟩; dsimp only at hk H O; dsimp only
       refine Ag (AN rfl rfl rfl (Ab (Aa (Aq (Ax _ rfl ?_ ?_)))))
       ·intro h5
        replace h5:=AF h5
        refine Av (Aa (Aq (Au (Ag (An rfl rfl (Ad rfl rfl (Iq rfl rfl T7 Iz ?_)))))))
        rw [Jg]
        refine DC _ (.int _ _) rfl C9 F1 Kb rfl (by decide) (by decide) rfl rfl rfl H ?_
        rintro b113 w - H
        refine DM (L:=[(b1,Bl 33 (AH r q))]) rfl C9 C9 F1 Qo Kb rfl (by decide) rfl rfl H O rfl (by simp [Bz]) (by omega) ?_
        rintro a9 c9 f9 w H O
        refine AJ rfl rfl (Ab (Aa (Aw (Ad rfl rfl (J7 (n:=8) rfl rfl rfl (by omega) ?_)))))
        refine Af rfl rfl (Ab (A5 (Aa (Aw (Ap rfl rfl rfl (by omega) (by omega) ?_)))))
        refine Ad rfl rfl (Ab (Aa ?_))
        refine ⟨(k+1,a9,c9,f9),rfl,⟨rfl,congrArg (Value.int .u32) (by rw [Nat.div_div_eq_div_mul,← Nat.pow_add,Nat.mul_succ]),rfl,trivial⟩,⟨by omega,H,?_⟩,by dsimp only; omega⟩
        dsimp only
        have O':OS a9 ((FO r).length+(k+1)) c9 1 f9 ((FO r++leB s k).map bv++[UInt8.ofNat (s / 2 ^ (8*k))].map bv):=O
        rw [← List.map_append,List.append_assoc,← XV] at O'
        exact O'
       ·intro h5
        replace h5:=AG h5
        obtain rfl:k=4:=by omega
        refine Bd (Aj (Aj (AD (Aa (Ag (An rfl rfl (AJ rfl rfl (Af rfl rfl (Ab (Aa (A9 (DK (v1:=(.slice _ _ _)) (v2:=(.int _ _)) rfl rfl rfl rfl ?_))))))))))))
        refine ⟨fun _=>⟨_,rfl,?_⟩,fun h=>(by rw [h1] at h; cases h)⟩
        have hB:Ca r=FO r++leB s 4:=by unfold Ca; rw [hs]
        rw [hB]
        exact Ctx.fresh (L:=[(b1,Bl 33 (AH r q))]) H O
end Go.Proofs.YtapphbmlkdhnmaaGreat

/- The rooms and the dues of a right round. -/
namespace Go.Proofs.YtapphbmlkdhnmaaGreat
open Go.GV
attribute [local irreducible] A2 W Wq Wt

/-- What lies behind the dues. -/
theorem LG {r:Rnd} (W:WR r) {i:Nat} {e:Ed} (hi:r.ids.length≤i) (he:r.es[i]? = some e):r.cmp=false∧(r.es.length:Int)=r.ids.length+2*(r.N - 1) ∧
  ((∃ b:Nat,i=r.ids.length+2*b∧(b:Int)<r.N - 1∧e.f=r.N - 1∧e.t=b∧e.cost=0)∨(∃ b:Nat,i=r.ids.length+2*b+1∧(b:Int)<r.N - 1∧e.f=b∧e.t=r.N - 1∧e.cap=4503599627370496∧e.cost=0)):=by
 have hr:=W.rest
 have hl:=CB he
 have hde:=W.de
 unfold GU at hr
 by_cases hc:r.cmp=true
 ·rw [if_pos hc,decide_eq_true_eq,List.length_drop] at hr
  omega
 ·rw [if_neg hc,Bool.and_eq_true,decide_eq_true_eq,List.length_drop,List.all_eq_true] at hr
  obtain ⟨h1,h2⟩:=hr
  have hN:=W.N1
  refine ⟨by simpa using hc,by omega,?_⟩
  obtain ⟨b,hb⟩:∃ b,b=(i - r.ids.length) / 2:=⟨_,rfl⟩
  have h3:=h2 b (List.mem_range.2 (by omega))
  unfold F2 at h3
  rw [Bool.and_eq_true,decide_eq_true_eq,decide_eq_true_eq] at h3
  rcases Nat.mod_two_eq_zero_or_one (i - r.ids.length) with h4 | h4
  ·left
   have hib:i=r.ids.length+2*b:=by omega
   have h5:(r.es.drop r.ids.length).getD (2*b) e0=e:=Bn (by rw [List.getElem?_drop,← hib]; exact he)
   rw [h5] at h3
   obtain ⟨⟨g1,g2⟩,g3⟩:=Uc.1 h3.1
   exact ⟨b,hib,by omega,g1,g2,g3⟩
  ·right
   have hib:i=r.ids.length+2*b+1:=by omega
   have h5:(r.es.drop r.ids.length).getD (2*b+1) e0=e:=Bn (by rw [List.getElem?_drop,← Nat.add_assoc,← hib]; exact he)
   rw [h5] at h3
   have h6:=h3.2
   subst h6
   exact ⟨b,hib,by omega,rfl,rfl,rfl,rfl⟩
def Ad3 (r:Rnd) (i:Nat):Du:=⟨r.ids.getD i 0,(r.es.getD i e0).f,(r.es.getD i e0).t,(r.es.getD i e0).cap,-(r.es.getD i e0).cost,0,false⟩
def wDueK (r:Rnd) (k:Nat):List Du:=(List.range k).map (Ad3 r)
def ZE (r:Rnd) (i b:Nat):Int:=if r.ids.length+2*b<i then (r.es.getD (r.ids.length+2*b) e0).cap else 0
def Ad4 (r:Rnd):List Int:=tab (ZE r r.es.length) (r.N - 1).toNat
def XX (r:Rnd):List Int × List Du × Int:=if BA r=true then (Ad4 r,wDueK r r.ids.length,0) else ([],[],1)
def DuesRes (w:World) (r:Rnd) (v:Value) (w':World):Prop :=
 ∃ vR vD,v = .tuple #[vR,vD,.int .i64 (XX r).2.2]∧Sl w w' vR 1 I1 (XX r).1∧Sl w w' vD 7 Ee (XX r).2.1∧Ext [] w w'
theorem Sl.nil {α:Type} {w w':World} {s:Nat} {enc:α→List Value}:Sl w w' (.slice none 0 0) s enc []:=⟨none,0,rfl,Nat.le_refl _,Rd.nil,fun h=>absurd rfl h⟩
end Go.Proofs.YtapphbmlkdhnmaaGreat

/- The reference's bytes of a round: the same. -/
namespace Go.Proofs.YtapphbmlkdhnmaaGreat
open Go.GV
attribute [local irreducible] A2 W Wq Wt

theorem Kq {x:Int} (h0:0≤x) (h1:x<256):BL (u64 x) 1=[by8 x]:=by
 have h:u64 x=(x % 256).toNat:=by unfold u64; omega
 rw [h]
 simp [BL,by8]
theorem XY (b:Bool):BL (bif b then 1 else 0) 1=[bif b then 1 else 0]:=by cases b <;> rfl
theorem P6 (s:Nat):leB s 4=[UInt8.ofNat s,UInt8.ofNat (s / 2 ^ 8),UInt8.ofNat (s / 2 ^ 16),UInt8.ofNat (s / 2 ^ 24)]:=by simp [leB,List.range_succ]
/-- A bank's two edges. -/
theorem Uh {r:Rnd} (W:WR r) {k:Nat} (h:r.ids.length+2*k+1<r.es.length):∃ e1 e2 x1 x2,r.es[r.ids.length+2*k]? = some e1∧r.es[r.ids.length+2*k+1]? = some e2∧r.fl[r.ids.length+2*k]? = some x1∧r.fl[r.ids.length+2*k+1]? = some x2 ∧
  esB r (r.ids.length+2*(k+1))=esB r (r.ids.length+2*k)++BL (u64 e1.cap) 8++BL (u64 x1) 8++BL (u64 x2) 8:=by
 have hl:=W.len
 obtain ⟨e1,h1⟩:=AC (l:=r.es) (i:=r.ids.length+2*k) (by omega)
 obtain ⟨e2,h2⟩:=AC (l:=r.es) (i:=r.ids.length+2*k+1) h
 obtain ⟨x1,h3⟩:=AC (l:=r.fl) (i:=r.ids.length+2*k) (by omega)
 obtain ⟨x2,h4⟩:=AC (l:=r.fl) (i:=r.ids.length+2*k+1) (by omega)
 refine ⟨e1,e2,x1,x2,h1,h2,h3,h4,?_⟩
 have hf1:e1.f=r.N - 1:=by
  rcases (LG W (by omega) h1).2.2 with ⟨b,_,_,h,-⟩ | ⟨b,h5,-⟩
  ·exact h
  ·omega
 have hf2:e2.f≠r.N - 1:=by
  rcases (LG W (by omega) h2).2.2 with ⟨b,h5,-⟩ | ⟨b,_,h6,h7,-⟩
  ·omega
  ·omega
 rw [show r.ids.length+2*(k+1)=r.ids.length+2*k+1+1 from by omega,IG h2 h4,IG h1 h3]
 have g1:eB r (r.ids.length+2*k) e1 x1=BL (u64 e1.cap) 8++BL (u64 x1) 8:=by unfold eB; rw [if_neg (by omega),if_pos hf1]
 have g2:eB r (r.ids.length+2*k+1) e2 x2=BL (u64 x2) 8:=by unfold eB; rw [if_neg (by omega),if_neg hf2]
 rw [g1,g2]
 simp only [List.append_assoc]
end Go.Proofs.YtapphbmlkdhnmaaGreat

/- What takes numbers off bytes, one behind the other: the program's two functions, and the reference's reader. -/
namespace Go.Proofs.YtapphbmlkdhnmaaGreat
open Go.GV
attribute [local irreducible] A2 W Wq Wt

/-- A number of k bytes, and what stands behind it; once one is missing, nothing more is read. -/
def nx (l:List UInt8) (k:Nat) (s:Nat × Bool):Nat × (Nat × Bool) :=
 if s.2=true then (0,s) else if s.1+k≤l.length then (numN ((l.drop s.1).take k),(s.1+k,false)) else (0,(s.1,true))
theorem XZ {l:List UInt8} {k p:Nat} (h:p+k≤l.length):nx l k (p,false)=(numN ((l.drop p).take k),(p+k,false)):=by
 unfold nx
 rw [if_neg Bool.false_ne_true,if_pos h]
theorem Ad5 {l:List UInt8} {k p:Nat} (h:¬ p+k≤l.length):nx l k (p,false)=(0,(p,true)):=by
 unfold nx
 rw [if_neg Bool.false_ne_true,if_neg h]
theorem GJ {l:List UInt8} {k:Nat} {s:Nat × Bool} (h:s.1≤l.length):(nx l k s).2.1≤l.length:=by
 unfold nx
 split
 ·exact h
 ·split
  ·assumption
  ·exact h
theorem Ya (l:List UInt8) {k:Nat} (hk:k≤8) (s:Nat × Bool):(nx l k s).1<18446744073709551616:=by
 unfold nx
 split
 ·show (0:Nat)<_
  decide
 ·split
  ·have h1:=Kp ((l.drop s.1).take k)
   have h2:((l.drop s.1).take k).length≤8:=by rw [List.length_take]; omega
   have h3:256 ^ ((l.drop s.1).take k).length≤256 ^ 8:=Nat.pow_le_pow_right (by decide) h2
   show numN _<_
   have h4:(256:Nat) ^ 8=18446744073709551616:=by decide
   omega
  ·show (0:Nat)<_
   decide
abbrev Oo (k:Nat):Prop:=k=1∨k=2∨k=4∨k=8
theorem Rb {l:List UInt8} {p k:Nat} (hk:Oo k) (h:p+k≤l.length):IF l (p:Int) (k:Int) = .tuple #[.int .u64 (numN ((l.drop p).take k):Int),.int .i64 ((p:Int)+(k:Int)),.int .i64 0]:=by
 have hs:Hu (k:Int)=true:=by rcases hk with rfl | rfl | rfl | rfl <;> rfl
 have he:GI l (p:Int) (k:Int)=0:=by
  unfold GI
  rw [hs,decide_eq_true (show (0:Int)≤(p:Int) by omega),decide_eq_true (show (p:Int)≤(l.length:Int) by omega),decide_eq_true (show (k:Int)≤(l.length:Int) - (p:Int) by omega)]
  rfl
 unfold IF
 rw [he]
 rfl
theorem Rc {l:List UInt8} {p k:Nat} (hk:Oo k) (hp:p≤l.length) (h:¬ p+k≤l.length):IF l (p:Int) (k:Int) = .tuple #[.int .u64 0,.int .i64 0,.int .i64 5]:=by
 have hs:Hu (k:Int)=true:=by rcases hk with rfl | rfl | rfl | rfl <;> rfl
 have he:GI l (p:Int) (k:Int)=5:=by
  unfold GI
  rw [hs,decide_eq_true (show (0:Int)≤(p:Int) by omega),decide_eq_true (show (p:Int)≤(l.length:Int) by omega),decide_eq_false (show ¬ (k:Int)≤(l.length:Int) - (p:Int) by omega)]
  rfl
 unfold IF
 rw [he]
 rfl
/-- What a take answers, whatever it is. -/
theorem Yb {l:List UInt8} {p k:Nat} (hk:Oo k) (hp:p≤l.length):∃ (n:Nat) (o e:Int),IF l (p:Int) (k:Int) = .tuple #[.int .u64 (n:Int),.int .i64 o,.int .i64 e]:=by
 by_cases h:p+k≤l.length
 ·exact ⟨_,_,_,Rb hk h⟩
 ·exact ⟨0,0,5,Rc hk hp h⟩
/-- Where the bytes lie, and that they stay. -/
structure TkB (w:World) (S:List Nat) (a:Option Addr) (c:Nat) (l:List UInt8):Prop where
 R:Rd w a 1 B8 l
 off:l≠[]→(adr a).block∉S
 hc:l.length≤c
 hm:l.length≤100000
theorem TkB.at {w w':World} {S:List Nat} {a:Option Addr} {c:Nat} {l:List UInt8} (B:TkB w S a c l) (h:Ext S w w'):Rd w' a 1 B8 l:=by
 by_cases hl:l=[]
 ·subst hl; exact Rd.nil
 ·exact B.R.ext h (B.off hl)
theorem TkB.ext {w w':World} {S:List Nat} {a:Option Addr} {c:Nat} {l:List UInt8} (B:TkB w S a c l) (h:Ext S w w'):TkB w' S a c l:=⟨B.at h,B.off,B.hc,B.hm⟩
abbrev tkL (ba bd:Nat) (s:Nat × Bool):List (Nat × Obj):=[(ba,Bl 3 [.int .i64 (s.1:Int)]),(bd,Bl 4 [.bool s.2])]
set_option maxHeartbeats 1000000 in
theorem Yc (bb ba bd:Nat) (a:Option Addr) (c:Nat) (l:List UInt8) (s:Nat × Bool) (k:Nat) (w:World) (B:TkB w [ba,bd] a c l) (hb:w.heap[bb]? = some (Bl 69 [.slice a l.length c])) (nb:bb∉[ba,bd]) (H:Ctx w [ba,bd] w (tkL ba bd s)) (hs:s.1≤l.length) (hk:Oo k) :
  Ret Tryz.prog 144 #[.int .i64 (k:Int),ptr bb,ptr ba,ptr bd] w fun v w'=>v = .int .u64 ((nx l k s).1:Int)∧Ctx w [ba,bd] w' (tkL ba bd (nx l k s).2):=by
 obtain ⟨w0,rfl⟩:∃ w0,w0=w:=⟨_,rfl⟩
 obtain ⟨p,bad⟩:=s
 dsimp only at hs
 have hm:=B.hm
 cases bad with
 | true =>
  obtain ⟨n,o,e,hT⟩:=Yb (k:=k) hk hs
  refine A1 (fn:=Tryz.f144) Tryz.func144 rfl [.int .i64 (k:Int),ptr bb,ptr ba,ptr bd] rfl (by kernel_rfl) ?_
  refine Ag (Af rfl rfl (Ab (Aa (Ag (AX rfl Wj rfl ((by rw [Ay (H.ext.to hb nb)]; rfl)) ?_)))))
  refine AA rfl BH rfl H at0 rfl (Ad rfl rfl (Ao rfl Sg (MU a c _ l (p:Int) (k:Int) _ (B.at H.ext) rfl (by omega) B.hc) rfl ?_))
  rintro v w ⟨rfl,hx13⟩
  replace H:=H.call hx13
  rw [hT]
  refine BG rfl rfl (A7 rfl rfl rfl (A7 rfl rfl rfl (A7 rfl rfl rfl (Af rfl rfl (Af rfl rfl (Af rfl rfl (Ab (Aa (Aq (Ag ?_))))))))))
  refine AA rfl Hf rfl H at1 rfl (Ak rfl rfl (Ae rfl (Ae rfl (Am rfl rfl (.bool _) rfl (Cj (.bool _) rfl Pd rfl rfl rfl H at1 (by (simp; done)) ?_)))))
  rintro w H
  refine Ab (Aa (Ag (AA rfl Hf rfl H at1 rfl (Ab (Aa (CM rfl (Ag (Af rfl rfl (Ab (Aa (A9 (Al (AB (v:=(.int _ _)) rfl rfl rfl ?_)))))))))))))
  exact ⟨rfl,H⟩
 | false =>
  by_cases hf:p+k≤l.length
  ·have hT:=Rb hk hf
   rw [XZ hf]
   refine A1 (fn:=Tryz.f144) Tryz.func144 rfl [.int .i64 (k:Int),ptr bb,ptr ba,ptr bd] rfl (by kernel_rfl) ?_
   refine Ag (Af rfl rfl (Ab (Aa (Ag (AX rfl Wj rfl ((by rw [Ay (H.ext.to hb nb)]; rfl)) ?_)))))
   refine AA rfl BH rfl H at0 rfl (Ad rfl rfl (Ao rfl Sg (MU a c _ l (p:Int) (k:Int) _ (B.at H.ext) rfl (by omega) B.hc) rfl ?_))
   rintro v w ⟨rfl,hx13⟩
   replace H:=H.call hx13
   rw [hT]
   refine BG rfl rfl (A7 rfl rfl rfl (A7 rfl rfl rfl (A7 rfl rfl rfl (Af rfl rfl (Af rfl rfl (Af rfl rfl (Ab (Aa (Aq (Ag ?_))))))))))
   refine AA rfl Hf rfl H at1 rfl (Ak rfl rfl (Ad rfl rfl (CH rfl rfl rfl (A3 rfl rfl (.bool _) rfl (Cj (.bool _) rfl Pd rfl rfl rfl H at1 (by (simp; done)) ?_)))))
   rintro w H
   refine Ab (Aa (Ag (AA rfl Hf rfl H at1 rfl (Ab (Aa (Ax _ rfl ?_ ?_))))))
   ·intro h1
    exact absurd h1 (by decide)
   ·intro h1
    refine Av (Aa (Ag (Ad rfl rfl (Cj (.int _ _) rfl EJ rfl rfl rfl H at0 (by (simp; done)) ?_))))
    rintro w H
    refine Ab (Aa (Ag (Ad rfl rfl (Af rfl rfl (Ab (Aa (A9 (AB (v:=(.int _ _)) rfl rfl rfl ?_))))))))
    exact ⟨rfl,H⟩
  ·have hT:=Rc hk hs hf
   rw [Ad5 hf]
   refine A1 (fn:=Tryz.f144) Tryz.func144 rfl [.int .i64 (k:Int),ptr bb,ptr ba,ptr bd] rfl (by kernel_rfl) ?_
   refine Ag (Af rfl rfl (Ab (Aa (Ag (AX rfl Wj rfl ((by rw [Ay (H.ext.to hb nb)]; rfl)) ?_)))))
   refine AA rfl BH rfl H at0 rfl (Ad rfl rfl (Ao rfl Sg (MU a c _ l (p:Int) (k:Int) _ (B.at H.ext) rfl (by omega) B.hc) rfl ?_))
   rintro v w ⟨rfl,hx13⟩
   replace H:=H.call hx13
   rw [hT]
   refine BG rfl rfl (A7 rfl rfl rfl (A7 rfl rfl rfl (A7 rfl rfl rfl (Af rfl rfl (Af rfl rfl (Af rfl rfl (Ab (Aa (Aq (Ag ?_))))))))))
   refine AA rfl Hf rfl H at1 rfl (Ak rfl rfl (Ad rfl rfl (CH rfl rfl rfl (A3 rfl rfl (.bool _) rfl (Cj (.bool _) rfl Pd rfl rfl rfl H at1 (by (simp; done)) ?_)))))
   rintro w H
   refine Ab (Aa (Ag (AA rfl Hf rfl H at1 rfl (Ab (Aa (Ax _ rfl ?_ ?_))))))
   ·intro h1
    refine Ag (Af rfl rfl (Ab (Aa (A9 (Al (AB (v:=(.int _ _)) rfl rfl rfl ?_))))))
    exact ⟨rfl,H⟩
   ·intro h1
    exact absurd h1 (by decide)
theorem P7 (bd:Nat) (bad:Bool) (w:World) (hb:w.heap[bd]? = some (Bl 4 [.bool bad])):Ret Tryz.prog 146 #[ptr bd] w fun v w'=>v = .bool (!bad)∧Ext [] w w':=by
 obtain ⟨w0,rfl⟩:∃ w0,w0=w:=⟨_,rfl⟩
 have H:=Ctx.start w0 []
 refine A1 (fn:=Tryz.f146) Tryz.func146 rfl [ptr bd] rfl (by kernel_rfl) ?_
 refine Ag (Ai rfl rfl (Ab (Aa (Ag (AX rfl Hf rfl ((by rw [Ay (H.ext.to hb (by simp))]; rfl)) ?_)))))
 refine Bu rfl rfl (Ai rfl rfl (Ab (Aa (A9 (AB (v:=(.bool _)) rfl rfl rfl ?_)))))
 exact ⟨rfl,H.ext⟩
/-- The same number with a sign. -/
def s64 (n:Nat):Int:=IntKind.i64.wrap (n:Int)
abbrev FU (bb ba bd:Nat):Value := .func (.func 144) #[] [ptr bb,ptr ba,ptr bd].toArray
theorem Ad6 (b4 bb ba bd:Nat) (a:Option Addr) (c:Nat) (l:List UInt8) (s:Nat × Bool) (w:World) (B:TkB w [ba,bd] a c l) (hb:w.heap[bb]? = some (Bl 69 [.slice a l.length c])) (nb:bb∉[ba,bd]) (H:Ctx w [ba,bd] w (tkL ba bd s)) (hs:s.1≤l.length)
  (h4:w.heap[b4]? = some (Bl 136 [FU bb ba bd])):Ret Tryz.prog 80 #[ptr b4] w fun v w'=>v = .int .i64 (s64 (nx l 8 s).1)∧Ctx w [ba,bd] w' (tkL ba bd (nx l 8 s).2):=by
 obtain ⟨w0,rfl⟩:∃ w0,w0=w:=⟨_,rfl⟩
 refine A1 (fn:=Tryz.f80) Tryz.func80 rfl [ptr b4] rfl (by kernel_rfl) ?_
 refine Ag (Af rfl rfl (Ab (Aa (Ag (AX rfl GM rfl ((by rw [Ay h4]; rfl)) ?_)))))
 refine Cs rfl rfl GO (Yc bb ba bd a c l s 8 _ B hb nb H hs (.inr (.inr (.inr rfl)))) rfl ?_
 rintro v w ⟨rfl,H⟩
 refine Gi rfl rfl FH Sp ?_
 refine Af rfl rfl (Ab (Aa (A9 (AB (v:=(.int _ _)) rfl rfl rfl ?_))))
 exact ⟨rfl,H⟩

/-! ### The reference's -/
abbrev rkL (br:Nat) (a:Option Addr) (c:Nat) (l:List UInt8) (s:Nat × Bool):List (Nat × Obj):=[(br,Bl 150 [.slice a l.length c,.int .i64 (s.1:Int),.bool s.2])]
end Go.Proofs.YtapphbmlkdhnmaaGreat

/- What the bytes of a round say (the parse, in plain words), where it lies while it is gathered, and the function that adds an edge and its flow. -/
namespace Go.Proofs.YtapphbmlkdhnmaaGreat
open Go.GV
attribute [local irreducible] A2 W Wq Wt

theorem qk_of {K:Env→World→Prop} {e:Env} {w:World} (h:K e w):Qk K .normal e w:=h

/-! ### The parse -/
structure PRd where
 ids:List Int
 es:List Ed
 fl:List Int
 pot:List Int
 s:Nat × Bool
/-- A number and its place. -/
def Jw (l:List UInt8) (e:Ed) (p:PRd):PRd:=⟨p.ids,p.es++[e],p.fl++[s64 (nx l 8 p.s).1],p.pot,(nx l 8 p.s).2⟩
def idP (l:List UInt8) (p:PRd):PRd:=⟨p.ids++[((nx l 8 p.s).1:Int)],p.es,p.fl,p.pot,(nx l 8 p.s).2⟩
def atP (p:PRd) (s:Nat × Bool):PRd:=⟨p.ids,p.es,p.fl,p.pot,s⟩
/-- A due: its id, its banks, its amount, its weight, its flow. -/
def dueP (l:List UInt8) (p:PRd):PRd :=
 let s1:=(nx l 8 p.s).2
 let s2:=(nx l 1 s1).2
 let s3:=(nx l 1 s2).2
 let s4:=(nx l 8 s3).2
 let s5:=(nx l 2 s4).2
 Jw l ⟨((nx l 1 s1).1:Int),((nx l 1 s2).1:Int),s64 (nx l 8 s3).1,-((nx l 2 s4).1:Int)⟩ (atP (idP l p) s5)
def Kr (l:List UInt8):Nat→PRd→PRd
 | 0,p=>p
 | d+1,p=>if p.s.2=true then p else Kr l d (dueP l p)
/-- A bank: its room and the two flows. -/
def Ui (l:List UInt8) (h i:Nat) (p:PRd):PRd :=
 let s1:=(nx l 8 p.s).2
 Jw l ⟨(i:Int),(h:Int),4503599627370496,0⟩ (Jw l ⟨(h:Int),(i:Int),s64 (nx l 8 p.s).1,0⟩ (atP p s1))
def G5 (l:List UInt8) (h:Nat):Nat→Nat→PRd→PRd
 | 0,_,p=>p
 | n+1,i,p=>if p.s.2=true then p else G5 l h n (i+1) (Ui l h i p)
def potP (l:List UInt8) (p:PRd):PRd:=⟨p.ids,p.es,p.fl,p.pot++[s64 (nx l 8 p.s).1],(nx l 8 p.s).2⟩
def Ks (l:List UInt8):Nat→PRd→PRd
 | 0,p=>p
 | n+1,p=>if p.s.2=true then p else Ks l n (potP l p)
/-- What stands ahead. -/
structure Hd where
 no:Int
 day:Int
 cmp:Bool
 N:Int
def hs1 (l:List UInt8):Nat × Bool:=(nx l 4 (0,false)).2
def hs2 (l:List UInt8):Nat × Bool:=(nx l 8 (hs1 l)).2
def hs3 (l:List UInt8):Nat × Bool:=(nx l 8 (hs2 l)).2
def hs4 (l:List UInt8):Nat × Bool:=(nx l 1 (hs3 l)).2
def hs5 (l:List UInt8):Nat × Bool:=(nx l 1 (hs4 l)).2
def hs6 (l:List UInt8):Nat × Bool:=(nx l 1 (hs5 l)).2
def DO (l:List UInt8):Nat:=(nx l 1 (hs4 l)).1
def Ta (l:List UInt8):Nat:=(nx l 1 (hs5 l)).1
def hdP (l:List UInt8):Hd:=⟨((nx l 8 (hs1 l)).1:Int),s64 (nx l 8 (hs2 l)).1,decide (((nx l 1 (hs3 l)).1:Int)=1),(DO l:Int)+1⟩
def Ij (h:Hd) (p:PRd):Rnd:=⟨h.no,h.day,h.cmp,p.ids,h.N,p.es,p.fl,p.pot⟩
def Jx (l:List UInt8):PRd :=
 let p1:=Kr l (Ta l) ⟨[],[],[],[],hs6 l⟩
 let p2:=if (hdP l).cmp=true then p1 else G5 l (DO l) (DO l) 0 p1
 Ks l (DO l+1) p2
def HZ (l:List UInt8):Rnd:=Ij (hdP l) (Jx l)
/-- The round of bytes, if they are put as they stand. -/
def FZ (l:List UInt8):Bool := !(Jx l).s.2 && (BA (HZ l) && decide (Ca (HZ l)=l))

/-! ### Where it lies -/
structure Gt where
 ba:Nat
 bd:Nat
 bb:Nat
 b2:Nat
 b4:Nat
 b6:Nat
 b7:Nat
 a:Option Addr
 c:Nat
 l:List UInt8
structure Gs where
 p:PRd
 aI:Option Addr
 cI:Nat
 fI:List Value
 aE:Option Addr
 cE:Nat
 fE:List Value
 aF:Option Addr
 cF:Nat
 fF:List Value
 aP:Option Addr
 cP:Nat
 fP:List Value
abbrev Gs.q (g:Gs):RSl:=⟨g.aI,g.cI,g.aE,g.cE,g.aF,g.cF,g.aP,g.cP⟩
abbrev Ns (b4:Nat):Value := .func (.func 80) #[] [ptr b4].toArray
abbrev G6:Rnd:=⟨0,0,false,[],0,[],[],[]⟩
abbrev Fw:RSl:=⟨none,0,none,0,none,0,none,0⟩
abbrev gE (g:Gs):List (Nat × Obj):=ent g.aI 24 g.fI++(ent g.aE 92 g.fE++(ent g.aF 2 g.fF++ent g.aP 2 g.fP))
abbrev gC (T:Gt) (h:Hd) (g:Gs):List (Nat × Obj):=[(T.b7,Bl 33 (AH (Ij h g.p) g.q)),(T.b6,Bl 139 [Ns T.b4]),(T.b4,Bl 136 [FU T.bb T.ba T.bd]),(T.bb,Bl 69 [.slice T.a T.l.length T.c]),(T.b2,Bl 33 (AH G6 Fw))]
abbrev gL (T:Gt) (h:Hd) (g:Gs) (s:Nat × Bool):List (Nat × Obj):=tkL T.ba T.bd s++(gC T h g++gE g)
structure GOk (T:Gt) (h:Hd) (w0 w:World) (g:Gs):Prop where
 H:Ctx w0 [] w (gL T h g g.p.s)
 I:OS g.aI g.p.ids.length g.cI 1 g.fI (g.p.ids.flatMap U1)
 E:OS g.aE g.p.es.length g.cE 4 g.fE (g.p.es.flatMap Bv)
 F:OS g.aF g.p.fl.length g.cF 1 g.fF (g.p.fl.flatMap I1)
 P:OS g.aP g.p.pot.length g.cP 1 g.fP (g.p.pot.flatMap I1)
 hs:g.p.s.1≤T.l.length
/-- What is fixed. -/
structure GFix (T:Gt) (w0:World):Prop where
 R:Rd w0 T.a 1 B8 T.l
 off:T.l≠[]→(adr T.a).block<w0.heap.size
 hc:T.l.length≤T.c
 hm:T.l.length≤100000
theorem Ctx.tkb {T:Gt} {w0 w:World} {s:Nat × Bool} {L:List (Nat × Obj)} (H:Ctx w0 [] w (tkL T.ba T.bd s++L)) (X:GFix T w0):TkB w [T.ba,T.bd] T.a T.c T.l:=by
 refine ⟨X.R.ext0 H.ext,fun hl h=>?_,X.hc,X.hm⟩
 have h1:=X.off hl
 have h2:w0.heap.size≤T.ba:=(H.own _ (List.mem_cons_self ..)).elim (fun h=>by cases h) id
 have h3:w0.heap.size≤T.bd:=(H.own _ (List.mem_cons_of_mem _ (List.mem_cons_self ..))).elim (fun h=>by cases h) id
 simp only [List.mem_cons,List.not_mem_nil,or_false] at h
 omega
theorem Ctx.nbL {T:Gt} {w0 w:World} {s:Nat × Bool} {L:List (Nat × Obj)} {o:Obj} (H:Ctx w0 [] w (tkL T.ba T.bd s++L)) {b:Nat} (hL:(b,o)∈L):b∉[T.ba,T.bd]:=fun hm=>by
 have h1:=(List.pairwise_append.1 H.nd).2.2
 simp only [List.mem_cons,List.not_mem_nil,or_false] at hm
 rcases hm with rfl | rfl
 ·exact h1 _ (List.mem_cons_self ..) _ hL rfl
 ·exact h1 _ (List.mem_cons_of_mem _ (List.mem_cons_self ..)) _ hL rfl
/-- The next number, whatever else stands there. -/
theorem IH {T:Gt} {w0 w:World} {s:Nat × Bool} {L:List (Nat × Obj)} (X:GFix T w0) (H:Ctx w0 [] w (tkL T.ba T.bd s++L)) (hL:(T.bb,Bl 69 [.slice T.a T.l.length T.c])∈L) (hs:s.1≤T.l.length) {k:Nat} (hk:Oo k) :
  Ret Tryz.prog 144 #[.int .i64 (k:Int),ptr T.bb,ptr T.ba,ptr T.bd] w fun v w'=>v = .int .u64 ((nx T.l k s).1:Int)∧Ctx w0 [] w' (tkL T.ba T.bd (nx T.l k s).2++L)∧Ext [T.ba,T.bd] w w' :=
 Ret.mono (Yc T.bb T.ba T.bd T.a T.c T.l s k w (Ctx.tkb H X) (H.blk _ (List.mem_append_right _ hL)) (Ctx.nbL H hL) (Ctx.lend H) hs hk) fun _ _ ⟨h1,h2⟩=>⟨h1,Ctx.back H h2,h2.ext⟩
theorem Uj {T:Gt} {w0 w:World} {s:Nat × Bool} {L:List (Nat × Obj)} (X:GFix T w0) (H:Ctx w0 [] w (tkL T.ba T.bd s++L)) (hL:(T.bb,Bl 69 [.slice T.a T.l.length T.c])∈L) (h4:(T.b4,Bl 136 [FU T.bb T.ba T.bd])∈L) (hs:s.1≤T.l.length) :
  Ret Tryz.prog 80 #[ptr T.b4] w fun v w'=>v = .int .i64 (s64 (nx T.l 8 s).1)∧Ctx w0 [] w' (tkL T.ba T.bd (nx T.l 8 s).2++L)∧Ext [T.ba,T.bd] w w' :=
 Ret.mono (Ad6 T.b4 T.bb T.ba T.bd T.a T.c T.l s w (Ctx.tkb H X) (H.blk _ (List.mem_append_right _ hL)) (Ctx.nbL H hL) (Ctx.lend H) hs (H.blk _ (List.mem_append_right _ h4))) fun _ _ ⟨h1,h2⟩=>⟨h1,Ctx.back H h2,h2.ext⟩
/-- The same, in the midst of it all. -/
theorem II {T:Gt} {h:Hd} {g:Gs} {w0 w:World} {s:Nat × Bool} (X:GFix T w0) (H:Ctx w0 [] w (gL T h g s)) (hs:s.1≤T.l.length) {k:Nat} (hk:Oo k) :
  Ret Tryz.prog 144 #[.int .i64 (k:Int),ptr T.bb,ptr T.ba,ptr T.bd] w fun v w'=>v = .int .u64 ((nx T.l k s).1:Int)∧Ctx w0 [] w' (gL T h g (nx T.l k s).2)∧Ext [T.ba,T.bd] w w' :=
 IH X H (by simp) hs hk
theorem LH {T:Gt} {h:Hd} {g:Gs} {w0 w:World} {s:Nat × Bool} (X:GFix T w0) (H:Ctx w0 [] w (gL T h g s)) (hs:s.1≤T.l.length) :
  Ret Tryz.prog 80 #[ptr T.b4] w fun v w'=>v = .int .i64 (s64 (nx T.l 8 s).1)∧Ctx w0 [] w' (gL T h g (nx T.l 8 s).2)∧Ext [T.ba,T.bd] w w' :=
 Uj X H (by simp) (by simp) hs
theorem Ctx.ltS {T:Gt} {h:Hd} {g:Gs} {w0 w:World} {s:Nat × Bool} (H:Ctx w0 [] w (gL T h g s)):∀ x∈[T.ba,T.bd],x<w.heap.size:=fun x hx=>by
 simp only [List.mem_cons,List.not_mem_nil,or_false] at hx
 rcases hx with rfl | rfl
 ·exact H.lt (k:=0) rfl
 ·exact H.lt (k:=1) rfl
/-! ### One of the four slices at the end -/
theorem pmI {α:Type} (X I R:List α):(X++(I++R)).Perm ((X++R)++I):=by
 rw [List.append_assoc]
 exact List.Perm.append_left X List.perm_append_comm
theorem pmE {α:Type} (X I E R:List α):(X++(I++(E++R))).Perm ((X++(I++R))++E):=by
 have:=pmI (X++I) E R
 simpa only [List.append_assoc] using this
theorem pmF {α:Type} (X I E F R:List α):(X++(I++(E++(F++R)))).Perm ((X++(I++(E++R)))++F):=by
 have:=pmI (X++I++E) F R
 simpa only [List.append_assoc] using this
theorem pmP {α:Type} (X I E F P:List α):(X++(I++(E++(F++P)))).Perm ((X++(I++(E++F)))++P):=by
 simp only [List.append_assoc]
 exact List.Perm.refl _
theorem Yd {α:Type} (A B I R:List α):(A++(B++(I++R))).Perm ((A++(B++R))++I):=by
 have:=pmI (A++B) I R
 simpa only [List.append_assoc] using this
theorem Ye {α:Type} (A B I E R:List α):(A++(B++(I++(E++R)))).Perm ((A++(B++(I++R)))++E):=by
 have:=pmE (A++B) I E R
 simpa only [List.append_assoc] using this
theorem Yf {α:Type} (A B I E F R:List α):(A++(B++(I++(E++(F++R))))).Perm ((A++(B++(I++(E++R))))++F):=by
 have:=pmF (A++B) I E F R
 simpa only [List.append_assoc] using this
theorem Yg {α:Type} (A B I E F P:List α):(A++(B++(I++(E++(F++P))))).Perm ((A++(B++(I++(E++F))))++P):=by
 have:=pmP (A++B) I E F P
 simpa only [List.append_assoc] using this
set_option maxRecDepth 20000 in
set_option maxHeartbeats 4000000 in
theorem KH {T:Gt} {h:Hd} {g:Gs} {w0 w:World} (X:GFix T w0) (G:GOk T h w0 w g) (e:Ed) (hE:g.p.es.length≤100000) (hF:g.p.fl.length≤100000) :
  Ret Tryz.prog 81 #[.agg (Bv e).toArray,ptr T.b7,ptr T.b6] w fun _ w'=>∃ g',GOk T h w0 w' g'∧g'.p=Jw T.l e g.p:=by
 obtain ⟨⟨ids,es,fl,pot,s⟩,aI,cI,fI,aE,cE,fE,aF,cF,fF,aP,cP,fP⟩:=g
 obtain ⟨H,OI,OE,OF,OP,hs⟩:=G
 dsimp only at H OI OE OF OP hs hE hF
 refine A1 (fn:=Tryz.f81) Tryz.func81 rfl [.agg (Bv e).toArray,ptr T.b7,ptr T.b6] rfl (by kernel_rfl) ?_
 refine Ag (Bs rfl (Bv e) (.agg _) rfl rfl H ?_)
 rintro b3 w - H
 refine Ab (Aa (Ag (Ah rfl DG rfl (Ah rfl BU rfl (AA rfl CI rfl H at3 rfl (Bh rfl DX BC rfl H at0 rfl (DC _ (.agg _) rfl Ce BC DH rfl (by decide) (by decide) rfl rfl rfl H ?_)))))))
 rintro b8 w - H
 refine DM (a:=aE) (n:=es.length) (c:=cE) rfl Ce Ce BC Wl DH rfl (by decide) rfl rfl (Ctx.perm (H.erase 1) ((Ye _ _ _ _ _).cons _)) OE rfl (Dk _) (by omega) ?_
 rintro aE' cE' fE' w H OE'
 replace H:=H.perm (Ye _ _ _ _ _).symm
 rw [show es.length+1=(es++[e]).length from by simp] at OE' ⊢
 replace OE':OS aE' (es++[e]).length cE' 4 fE' ((es++[e]).flatMap Bv):=by { rw [List.flatMap_append]; simpa using OE' }
 refine Ah rfl DG rfl (Ah rfl BU rfl (Cj (.slice _ _ _) rfl Aab rfl rfl rfl H at2 (by (simp; done)) ?_))
 rintro w H
 refine Ab (Aa ?_)
 replace H:Ctx w0 [] _ (gL T h ⟨⟨ids,es++[e],fl,pot,s⟩,aI,cI,fI,aE',cE',fE',aF,cF,fF,aP,cP,fP⟩ s):=H
 have hSw:=Ctx.ltS H
 refine Gm (n:=6) (N:=10) (anc:=Ln 6 [[],[0],[0,1],[],[3],[3,4]]) [T.ba,T.bd] (fun i=>12+i) [isV (.pointer (some ⟨T.b7,6,none⟩)),isV (.pointer (some ⟨T.b7,6,none⟩)),isV (.slice aF fl.length cF),isV (Ns T.b4),isV (.int .i64 (s64 (nx T.l 8 s).1)),nsV w 2 1 [.int .i64 (s64 (nx T.l 8 s).1)]] [4] (fun k w'=>Ctx w0 [] w' (gL T h ⟨⟨ids,es++[e],fl,pot,s⟩,aI,cI,fI,aE',cE',fE',aF,cF,fF,aP,cP,fP⟩ ([s,(nx T.l 8 s).2].getD k s))) (show Tryz.prog.follows .mixedOrders=true by kernel_rfl) rfl (by decide) (by kernel_rfl) (Ey _) (fun i j _ _ h=>by have h:12+i=12+j:=h; omega) ⟨BO _ _,BO _ _,BO _ _,BO _ _,BO _ _,OR hSw _ _ _,trivial⟩ (by kernel_rfl) (fun k w w2 h hx=>h.call hx) H.drew (by kernel_rfl) ?_ ?_ ?_
 ·rintro m o e' w' hm hic ho hold hg hx ⟨k,HJ⟩
  have hin:∀ t:Nat,t<12→∀ j,j<6→t≠(fun i=>12+i) j:=fun t ht j hj=>by dsimp only; omega
  have g1:e'.g 1=ptr T.b7:=(hold 1 (hin 1 (by decide))).trans rfl
  have g2:e'.g 2=ptr T.b6:=(hold 2 (hin 2 (by decide))).trans rfl
  have hcs:m=0∨m=1∨m=2∨m=3∨m=4∨m=5:=by omega
  rcases hcs with rfl | rfl | rfl | rfl | rfl | rfl
  ·cases Option.some.inj ho
   exact Ah (off:=6) rfl (by kernel_rfl) g1 (Ab ⟨_,.refl _ _,rfl,rfl⟩)
  ·cases Option.some.inj ho
   exact Ah (off:=0) rfl (by kernel_rfl) (hg 0 (by decide)) (Ab ⟨_,.refl _ _,rfl,rfl⟩)
  ·cases Option.some.inj ho
   exact AX rfl BF (hg 1 (by decide)) (by rw [Ay (HJ.get (k:=2) rfl)]; rfl) (Ab ⟨_,.refl _ _,rfl,rfl⟩)
  ·cases Option.some.inj ho
   exact AX rfl Ms g2 (by rw [Ay (HJ.get (k:=3) rfl)]; rfl) (Ab ⟨_,.refl _ _,rfl,rfl⟩)
  ·exact absurd (by decide) hic
  ·cases Option.some.inj ho
   refine Dm [.int .i64 (s64 (nx T.l 8 s).1)] rfl AR B2 GP (by decide) (by decide) ?_ (Ctx.start w' []) ?_
   ·show Instr.fill _ _ [(0,e'.g 16)]=_
    rw [show e'.g 16 = .int .i64 (s64 (nx T.l 8 s).1) from (hg 4 (by decide))]
    kernel_rfl
   ·intro b w2 _ H
    exact Ab ⟨_,H.ext,rfl,b,rfl,H.get at0,Nat.le_trans hx.size ((H.own _ (List.mem_cons_self ..)).elim (fun h=>by cases h) id)⟩
 ·intro k i o e' w' hk ho hold hg hx HJ
  have hin:∀ t:Nat,t<12→∀ j,j<6→t≠(fun i=>12+i) j:=fun t ht j hj=>by dsimp only; omega
  have g1:e'.g 1=ptr T.b7:=(hold 1 (hin 1 (by decide))).trans rfl
  have g2:e'.g 2=ptr T.b6:=(hold 2 (hin 2 (by decide))).trans rfl
  rcases k with _ | k
  ·cases hk
   cases Option.some.inj ho
   refine Cs rfl (hg 3 (by decide)) Qq (LH X HJ hs) rfl ?_
   rintro v w2 ⟨rfl,h2,h3⟩
   exact Ab ⟨_,h3,rfl,rfl,h2⟩
  ·simp at hk
 ·intro e' w' hds hold hg hx HJ
  have hin:∀ t:Nat,t<12→∀ j,j<6→t≠(fun i=>12+i) j:=fun t ht j hj=>by dsimp only; omega
  obtain ⟨b5,h5,hb5,hn5⟩:=hg 5 (by decide)
  replace HJ:Ctx w0 [] w' (gL T h ⟨⟨ids,es++[e],fl,pot,s⟩,aI,cI,fI,aE',cE',fE',aF,cF,fF,aP,cP,fP⟩ (nx T.l 8 s).2):=HJ
  refine DT rfl AR AR B2 OV GP rfl (by decide) [.int .i64 (s64 (nx T.l 8 s).1)] (hg 2 (by decide)) h5 (Ctx.perm HJ (Yf _ _ _ _ _ _)) OF rfl (by simp [Bz]) (fun j v hv=>⟨_,rfl,by rw [Cx,Nat.zero_add,Ay hb5]; exact hv⟩) (by omega) fun a' c' full' w3 H6 O6=>?_
  replace H6:=H6.perm (Yf _ _ _ _ _ _).symm
  rw [show fl.length+1=(fl++[s64 (nx T.l 8 s).1]).length from by simp] at O6 ⊢
  refine Ah (off:=6) rfl (by kernel_rfl) ((hold 1 (hin 1 (by decide))).trans rfl) ?_
  refine Ah (off:=0) rfl (by kernel_rfl) (Dt _ _ _) ?_
  refine Cj (.slice a' (fl++[s64 (nx T.l 8 s).1]).length c') rfl WD (Dt _ _ _) rfl rfl H6 at2 (by simp) fun w4 H8=>Ab ?_
  refine qk_of (CJ rfl (hds.trans rfl) ⟨⟨⟨ids,es++[e],fl++[s64 (nx T.l 8 s).1],pot,(nx T.l 8 s).2⟩,aI,cI,fI,aE',cE',fE',a',c',full',aP,cP,fP⟩,⟨H8,OI,OE',?_,OP,GJ hs⟩,rfl⟩)
  dsimp only
  rw [List.flatMap_append]
  simpa using O6
end Go.Proofs.YtapphbmlkdhnmaaGreat
