/- Part 2 of the proof. -/
import Derived.Test.YtkmbcpgnafmnpaaDoorPart1
import Derived.Laws.AppendOwn
import Derived.Laws.IdiomStrings
import Derived.Laws.Strings
import Derived.Shelf.SlIterI.Nil
import Derived.Shelf.SortM.Plain
import Derived.Shelf.SortM.SortNone
import Derived.RangeFuncLeaves
import Derived.ProofKit
import Derived.Deep.Slices
import Derived.OpenShut
import Derived.Test.YtkmbcpgnafmnpaaDoorProg
import Derived.KernelRfl
/- Rules for unsigned numbers that are written as naturals: bits, shifts, sums that wrap, conversions; rules for strings; printed by mkbits.py. They hold for every program. -/
namespace Go.GV
open Go

theorem wrap_nat {k : IntKind} (hk : k.signed = false) (a : Nat) : k.wrap (a : Int) = ((a % 2 ^ k.bits : Nat) : Int) := by
  unfold IntKind.wrap
  rw [hk]
  simp
theorem ofInt_nat (n a : Nat) : BitVec.ofInt n (a : Int) = BitVec.ofNat n a := by
  apply BitVec.eq_of_toNat_eq
  rw [BitVec.toNat_ofInt, BitVec.toNat_ofNat]
  norm_cast
theorem bits_and {k : IntKind} (hk : k.signed = false) {a b : Nat} (ha : a < 2 ^ k.bits) (hb : b < 2 ^ k.bits) : Op.intBits .and k a b = pure (.int k ((a &&& b : Nat) : Int)) := by
  have hx : a &&& b < 2 ^ k.bits := Nat.lt_of_le_of_lt Nat.and_le_left ha
  simp only [Op.intBits, ofInt_nat]
  rw [wrap_nat hk, BitVec.toNat_and, BitVec.toNat_ofNat, BitVec.toNat_ofNat, Nat.mod_eq_of_lt ha, Nat.mod_eq_of_lt hb, Nat.mod_eq_of_lt hx]
theorem bits_or {k : IntKind} (hk : k.signed = false) {a b : Nat} (ha : a < 2 ^ k.bits) (hb : b < 2 ^ k.bits) : Op.intBits .or k a b = pure (.int k ((a ||| b : Nat) : Int)) := by
  have hx : a ||| b < 2 ^ k.bits := Nat.or_lt_two_pow ha hb
  simp only [Op.intBits, ofInt_nat]
  rw [wrap_nat hk, BitVec.toNat_or, BitVec.toNat_ofNat, BitVec.toNat_ofNat, Nat.mod_eq_of_lt ha, Nat.mod_eq_of_lt hb, Nat.mod_eq_of_lt hx]
theorem bits_xor {k : IntKind} (hk : k.signed = false) {a b : Nat} (ha : a < 2 ^ k.bits) (hb : b < 2 ^ k.bits) : Op.intBits .xor k a b = pure (.int k ((a ^^^ b : Nat) : Int)) := by
  have hx : a ^^^ b < 2 ^ k.bits := Nat.xor_lt_two_pow ha hb
  simp only [Op.intBits, ofInt_nat]
  rw [wrap_nat hk, BitVec.toNat_xor, BitVec.toNat_ofNat, BitVec.toNat_ofNat, Nat.mod_eq_of_lt ha, Nat.mod_eq_of_lt hb, Nat.mod_eq_of_lt hx]
theorem run_shr {k k2 : IntKind} {a n : Nat} (hn : n ≤ k.bits) : Op.shift .shr k (a : Int) k2 (n : Int) = pure (.int k ((a / 2 ^ n : Nat) : Int)) := by
  unfold Op.shift
  rw [if_neg (by omega)]
  have hm : min ((n : Int)).toNat k.bits = n := by rw [Int.toNat_natCast]; exact Nat.min_eq_left hn
  simp only [hm]
  congr 2
  have : ((2 : Int) ^ n) = ((2 ^ n : Nat) : Int) := by norm_cast
  rw [this, Int.fdiv_eq_ediv_of_nonneg _ (Int.natCast_nonneg _)]
  norm_cast
theorem run_shl {k k2 : IntKind} (hk : k.signed = false) {a n : Nat} (hn : n ≤ k.bits) : Op.shift .shl k (a : Int) k2 (n : Int) = pure (.int k ((a * 2 ^ n % 2 ^ k.bits : Nat) : Int)) := by
  unfold Op.shift
  rw [if_neg (by omega)]
  have hm : min ((n : Int)).toNat k.bits = n := by rw [Int.toNat_natCast]; exact Nat.min_eq_left hn
  simp only [hm]
  congr 2
  have : (a : Int) * (2 : Int) ^ n = ((a * 2 ^ n : Nat) : Int) := by norm_cast
  rw [this, wrap_nat hk]
theorem run_addw {P : Program} {k : IntKind} (hk : k.signed = false) (t : TypeId) (a b : Nat) (w : World) : (binOp .add t (.int k (a : Int)) (.int k (b : Int))).run P w = .ok (.int k (((a + b) % 2 ^ k.bits : Nat) : Int)) w := by
  have h1 : (a : Int) + (b : Int) = ((a + b : Nat) : Int) := by norm_cast
  simp only [binOp, ne_eq, not_true_eq_false, if_false, Op.intArith, h1, wrap_nat hk]; rfl
theorem run_mulw {P : Program} {k : IntKind} (hk : k.signed = false) (t : TypeId) (a b : Nat) (w : World) : (binOp .mul t (.int k (a : Int)) (.int k (b : Int))).run P w = .ok (.int k (((a * b) % 2 ^ k.bits : Nat) : Int)) w := by
  have h1 : (a : Int) * (b : Int) = ((a * b : Nat) : Int) := by norm_cast
  simp only [binOp, ne_eq, not_true_eq_false, if_false, Op.intArith, h1, wrap_nat hk]; rfl

section
variable {P : Program} {r : Option Nat} {ops rest : List Oper} {Q : Exit → Env → World → Prop} {e : Env} {w w0 : World} {S : List Nat} {L : List (Nat × Obj)}
  {dst : Option Tmp} {ty : TypeId} {pos : String} {af : Array Edge} {g : Option (Nat × Bool)} {C : World → Prop} {K : Env → Prop} {t t2 : TypeId} {x y : Operand} {a b n : Nat} {s d : TypeId}
theorem run_comw {k : IntKind} (hk : k.signed = false) (hx : ev e x = .int k a) (ha : a < 2 ^ k.bits) :
    (execOp (ev e) ⟨dst, .unOp .xor t x, ty, pos, af, g⟩).run P w = .ok (.value (.int k (((2 ^ k.bits - 1) ^^^ a : Nat) : Int))) w := by
  have hp := Nat.two_pow_pos k.bits
  have h1 := bits_xor hk (a := 2 ^ k.bits - 1) (b := a) (by omega) ha
  have h2 : (if k.signed then (-1 : Int) else k.max) = ((2 ^ k.bits - 1 : Nat) : Int) := by
    rw [hk]
    simp only [Bool.false_eq_true, if_false, IntKind.max, hk]
    rw [Int.natCast_sub hp]
    norm_cast
  simp [execOp, hx, Op.unary, h2, h1]
theorem run_convn {k k1 : IntKind} {ds : TypeDesc} (hk : k.signed = false) (hx : ev e x = .int k1 a) (hs : P.underlying s = some ds) (hd : P.underlying d = some (.int k)) :
    (execOp (ev e) ⟨dst, .convert s d x, ty, pos, af, g⟩).run P w = .ok (.value (.int k ((a % 2 ^ k.bits : Nat) : Int))) w := by
  simp [execOp, hx, convert, run_under hs, run_under hd, Conv.intToInt, wrap_nat hk]
theorem op_and_u8 (hg : wants ⟨dst, .binOp .and t x y t2, ty, pos, af, g⟩ ops e = true) (hx : ev e x = .int .u8 a) (hy : ev e y = .int .u8 b) (ha : a < 256) (hb : b < 256)
    (h : Wops P r ops Q rest (put e dst (.int .u8 ((a &&& b : Nat) : Int))) w) : Wops P r ops Q (⟨dst, .binOp .and t x y t2, ty, pos, af, g⟩ :: rest) e w :=
  op_val hg rfl (run_bin hx hy (by show (Op.intBits .and .u8 (a : Int) (b : Int)).run P w = _; rw [bits_and rfl (by exact ha) (by exact hb)]; rfl)) h
theorem q_and_u8 (hg : wants ⟨dst, .binOp .and t x y t2, ty, pos, af, g⟩ ops e = true) (hx : ev e x = .int .u8 a) (hy : ev e y = .int .u8 b) (ha : a < 256) (hb : b < 256)
    (h : Wq P ops C K rest (put e dst (.int .u8 ((a &&& b : Nat) : Int)))) : Wq P ops C K (⟨dst, .binOp .and t x y t2, ty, pos, af, g⟩ :: rest) e :=
  q_val hg (fun w _ => run_bin hx hy (by show (Op.intBits .and .u8 (a : Int) (b : Int)).run P w = _; rw [bits_and rfl (by exact ha) (by exact hb)]; rfl)) h
theorem op_or_u8 (hg : wants ⟨dst, .binOp .or t x y t2, ty, pos, af, g⟩ ops e = true) (hx : ev e x = .int .u8 a) (hy : ev e y = .int .u8 b) (ha : a < 256) (hb : b < 256)
    (h : Wops P r ops Q rest (put e dst (.int .u8 ((a ||| b : Nat) : Int))) w) : Wops P r ops Q (⟨dst, .binOp .or t x y t2, ty, pos, af, g⟩ :: rest) e w :=
  op_val hg rfl (run_bin hx hy (by show (Op.intBits .or .u8 (a : Int) (b : Int)).run P w = _; rw [bits_or rfl (by exact ha) (by exact hb)]; rfl)) h
theorem q_or_u8 (hg : wants ⟨dst, .binOp .or t x y t2, ty, pos, af, g⟩ ops e = true) (hx : ev e x = .int .u8 a) (hy : ev e y = .int .u8 b) (ha : a < 256) (hb : b < 256)
    (h : Wq P ops C K rest (put e dst (.int .u8 ((a ||| b : Nat) : Int)))) : Wq P ops C K (⟨dst, .binOp .or t x y t2, ty, pos, af, g⟩ :: rest) e :=
  q_val hg (fun w _ => run_bin hx hy (by show (Op.intBits .or .u8 (a : Int) (b : Int)).run P w = _; rw [bits_or rfl (by exact ha) (by exact hb)]; rfl)) h
theorem op_xor_u8 (hg : wants ⟨dst, .binOp .xor t x y t2, ty, pos, af, g⟩ ops e = true) (hx : ev e x = .int .u8 a) (hy : ev e y = .int .u8 b) (ha : a < 256) (hb : b < 256)
    (h : Wops P r ops Q rest (put e dst (.int .u8 ((a ^^^ b : Nat) : Int))) w) : Wops P r ops Q (⟨dst, .binOp .xor t x y t2, ty, pos, af, g⟩ :: rest) e w :=
  op_val hg rfl (run_bin hx hy (by show (Op.intBits .xor .u8 (a : Int) (b : Int)).run P w = _; rw [bits_xor rfl (by exact ha) (by exact hb)]; rfl)) h
theorem q_xor_u8 (hg : wants ⟨dst, .binOp .xor t x y t2, ty, pos, af, g⟩ ops e = true) (hx : ev e x = .int .u8 a) (hy : ev e y = .int .u8 b) (ha : a < 256) (hb : b < 256)
    (h : Wq P ops C K rest (put e dst (.int .u8 ((a ^^^ b : Nat) : Int)))) : Wq P ops C K (⟨dst, .binOp .xor t x y t2, ty, pos, af, g⟩ :: rest) e :=
  q_val hg (fun w _ => run_bin hx hy (by show (Op.intBits .xor .u8 (a : Int) (b : Int)).run P w = _; rw [bits_xor rfl (by exact ha) (by exact hb)]; rfl)) h
theorem op_shr_u8 (hg : wants ⟨dst, .binOp .shr t x y t2, ty, pos, af, g⟩ ops e = true) {k2 : IntKind} (hx : ev e x = .int .u8 a) (hy : ev e y = .int k2 n) (hn : n ≤ 8)
    (h : Wops P r ops Q rest (put e dst (.int .u8 ((a / 2 ^ n : Nat) : Int))) w) : Wops P r ops Q (⟨dst, .binOp .shr t x y t2, ty, pos, af, g⟩ :: rest) e w :=
  op_val hg rfl (run_bin hx hy (by show (Op.shift .shr .u8 (a : Int) k2 (n : Int)).run P w = _; rw [run_shr (by exact hn)]; rfl)) h
theorem q_shr_u8 (hg : wants ⟨dst, .binOp .shr t x y t2, ty, pos, af, g⟩ ops e = true) {k2 : IntKind} (hx : ev e x = .int .u8 a) (hy : ev e y = .int k2 n) (hn : n ≤ 8)
    (h : Wq P ops C K rest (put e dst (.int .u8 ((a / 2 ^ n : Nat) : Int)))) : Wq P ops C K (⟨dst, .binOp .shr t x y t2, ty, pos, af, g⟩ :: rest) e :=
  q_val hg (fun w _ => run_bin hx hy (by show (Op.shift .shr .u8 (a : Int) k2 (n : Int)).run P w = _; rw [run_shr (by exact hn)]; rfl)) h
theorem op_shl_u8 (hg : wants ⟨dst, .binOp .shl t x y t2, ty, pos, af, g⟩ ops e = true) {k2 : IntKind} (hx : ev e x = .int .u8 a) (hy : ev e y = .int k2 n) (hn : n ≤ 8)
    (h : Wops P r ops Q rest (put e dst (.int .u8 ((a * 2 ^ n % 256 : Nat) : Int))) w) : Wops P r ops Q (⟨dst, .binOp .shl t x y t2, ty, pos, af, g⟩ :: rest) e w :=
  op_val hg rfl (run_bin hx hy (by show (Op.shift .shl .u8 (a : Int) k2 (n : Int)).run P w = _; rw [run_shl rfl (by exact hn)]; rfl)) h
theorem q_shl_u8 (hg : wants ⟨dst, .binOp .shl t x y t2, ty, pos, af, g⟩ ops e = true) {k2 : IntKind} (hx : ev e x = .int .u8 a) (hy : ev e y = .int k2 n) (hn : n ≤ 8)
    (h : Wq P ops C K rest (put e dst (.int .u8 ((a * 2 ^ n % 256 : Nat) : Int)))) : Wq P ops C K (⟨dst, .binOp .shl t x y t2, ty, pos, af, g⟩ :: rest) e :=
  q_val hg (fun w _ => run_bin hx hy (by show (Op.shift .shl .u8 (a : Int) k2 (n : Int)).run P w = _; rw [run_shl rfl (by exact hn)]; rfl)) h
theorem op_addw_u8 (hg : wants ⟨dst, .binOp .add t x y t2, ty, pos, af, g⟩ ops e = true) (hx : ev e x = .int .u8 a) (hy : ev e y = .int .u8 b)
    (h : Wops P r ops Q rest (put e dst (.int .u8 (((a + b) % 256 : Nat) : Int))) w) : Wops P r ops Q (⟨dst, .binOp .add t x y t2, ty, pos, af, g⟩ :: rest) e w :=
  op_val hg rfl (run_bin hx hy (run_addw (k := .u8) rfl t a b _)) h
theorem q_addw_u8 (hg : wants ⟨dst, .binOp .add t x y t2, ty, pos, af, g⟩ ops e = true) (hx : ev e x = .int .u8 a) (hy : ev e y = .int .u8 b)
    (h : Wq P ops C K rest (put e dst (.int .u8 (((a + b) % 256 : Nat) : Int)))) : Wq P ops C K (⟨dst, .binOp .add t x y t2, ty, pos, af, g⟩ :: rest) e :=
  q_val hg (fun _ _ => run_bin hx hy (run_addw (k := .u8) rfl t a b _)) h
theorem op_mulw_u8 (hg : wants ⟨dst, .binOp .mul t x y t2, ty, pos, af, g⟩ ops e = true) (hx : ev e x = .int .u8 a) (hy : ev e y = .int .u8 b)
    (h : Wops P r ops Q rest (put e dst (.int .u8 (((a * b) % 256 : Nat) : Int))) w) : Wops P r ops Q (⟨dst, .binOp .mul t x y t2, ty, pos, af, g⟩ :: rest) e w :=
  op_val hg rfl (run_bin hx hy (run_mulw (k := .u8) rfl t a b _)) h
theorem q_mulw_u8 (hg : wants ⟨dst, .binOp .mul t x y t2, ty, pos, af, g⟩ ops e = true) (hx : ev e x = .int .u8 a) (hy : ev e y = .int .u8 b)
    (h : Wq P ops C K rest (put e dst (.int .u8 (((a * b) % 256 : Nat) : Int)))) : Wq P ops C K (⟨dst, .binOp .mul t x y t2, ty, pos, af, g⟩ :: rest) e :=
  q_val hg (fun _ _ => run_bin hx hy (run_mulw (k := .u8) rfl t a b _)) h
theorem op_com_u8 (hg : wants ⟨dst, .unOp .xor t x, ty, pos, af, g⟩ ops e = true) (hx : ev e x = .int .u8 a) (ha : a < 256)
    (h : Wops P r ops Q rest (put e dst (.int .u8 ((255 ^^^ a : Nat) : Int))) w) : Wops P r ops Q (⟨dst, .unOp .xor t x, ty, pos, af, g⟩ :: rest) e w :=
  op_val hg rfl (run_comw (k := .u8) rfl hx (by exact ha)) h
theorem q_com_u8 (hg : wants ⟨dst, .unOp .xor t x, ty, pos, af, g⟩ ops e = true) (hx : ev e x = .int .u8 a) (ha : a < 256)
    (h : Wq P ops C K rest (put e dst (.int .u8 ((255 ^^^ a : Nat) : Int)))) : Wq P ops C K (⟨dst, .unOp .xor t x, ty, pos, af, g⟩ :: rest) e :=
  q_val hg (fun _ _ => run_comw (k := .u8) rfl hx (by exact ha)) h
theorem op_convn_u8 (hg : wants ⟨dst, .convert s d x, ty, pos, af, g⟩ ops e = true) {k1 : IntKind} {ds : TypeDesc} (hx : ev e x = .int k1 a) (hs : P.underlying s = some ds) (hd : P.underlying d = some (.int .u8))
    (h : Wops P r ops Q rest (put e dst (.int .u8 ((a % 256 : Nat) : Int))) w) : Wops P r ops Q (⟨dst, .convert s d x, ty, pos, af, g⟩ :: rest) e w :=
  op_val hg rfl (run_convn (k := .u8) rfl hx hs hd) h
theorem q_convn_u8 (hg : wants ⟨dst, .convert s d x, ty, pos, af, g⟩ ops e = true) {k1 : IntKind} {ds : TypeDesc} (hx : ev e x = .int k1 a) (hs : P.underlying s = some ds) (hd : P.underlying d = some (.int .u8))
    (h : Wq P ops C K rest (put e dst (.int .u8 ((a % 256 : Nat) : Int)))) : Wq P ops C K (⟨dst, .convert s d x, ty, pos, af, g⟩ :: rest) e :=
  q_val hg (fun _ _ => run_convn (k := .u8) rfl hx hs hd) h
theorem op_and_u16 (hg : wants ⟨dst, .binOp .and t x y t2, ty, pos, af, g⟩ ops e = true) (hx : ev e x = .int .u16 a) (hy : ev e y = .int .u16 b) (ha : a < 65536) (hb : b < 65536)
    (h : Wops P r ops Q rest (put e dst (.int .u16 ((a &&& b : Nat) : Int))) w) : Wops P r ops Q (⟨dst, .binOp .and t x y t2, ty, pos, af, g⟩ :: rest) e w :=
  op_val hg rfl (run_bin hx hy (by show (Op.intBits .and .u16 (a : Int) (b : Int)).run P w = _; rw [bits_and rfl (by exact ha) (by exact hb)]; rfl)) h
theorem q_and_u16 (hg : wants ⟨dst, .binOp .and t x y t2, ty, pos, af, g⟩ ops e = true) (hx : ev e x = .int .u16 a) (hy : ev e y = .int .u16 b) (ha : a < 65536) (hb : b < 65536)
    (h : Wq P ops C K rest (put e dst (.int .u16 ((a &&& b : Nat) : Int)))) : Wq P ops C K (⟨dst, .binOp .and t x y t2, ty, pos, af, g⟩ :: rest) e :=
  q_val hg (fun w _ => run_bin hx hy (by show (Op.intBits .and .u16 (a : Int) (b : Int)).run P w = _; rw [bits_and rfl (by exact ha) (by exact hb)]; rfl)) h
theorem op_or_u16 (hg : wants ⟨dst, .binOp .or t x y t2, ty, pos, af, g⟩ ops e = true) (hx : ev e x = .int .u16 a) (hy : ev e y = .int .u16 b) (ha : a < 65536) (hb : b < 65536)
    (h : Wops P r ops Q rest (put e dst (.int .u16 ((a ||| b : Nat) : Int))) w) : Wops P r ops Q (⟨dst, .binOp .or t x y t2, ty, pos, af, g⟩ :: rest) e w :=
  op_val hg rfl (run_bin hx hy (by show (Op.intBits .or .u16 (a : Int) (b : Int)).run P w = _; rw [bits_or rfl (by exact ha) (by exact hb)]; rfl)) h
theorem q_or_u16 (hg : wants ⟨dst, .binOp .or t x y t2, ty, pos, af, g⟩ ops e = true) (hx : ev e x = .int .u16 a) (hy : ev e y = .int .u16 b) (ha : a < 65536) (hb : b < 65536)
    (h : Wq P ops C K rest (put e dst (.int .u16 ((a ||| b : Nat) : Int)))) : Wq P ops C K (⟨dst, .binOp .or t x y t2, ty, pos, af, g⟩ :: rest) e :=
  q_val hg (fun w _ => run_bin hx hy (by show (Op.intBits .or .u16 (a : Int) (b : Int)).run P w = _; rw [bits_or rfl (by exact ha) (by exact hb)]; rfl)) h
theorem op_xor_u16 (hg : wants ⟨dst, .binOp .xor t x y t2, ty, pos, af, g⟩ ops e = true) (hx : ev e x = .int .u16 a) (hy : ev e y = .int .u16 b) (ha : a < 65536) (hb : b < 65536)
    (h : Wops P r ops Q rest (put e dst (.int .u16 ((a ^^^ b : Nat) : Int))) w) : Wops P r ops Q (⟨dst, .binOp .xor t x y t2, ty, pos, af, g⟩ :: rest) e w :=
  op_val hg rfl (run_bin hx hy (by show (Op.intBits .xor .u16 (a : Int) (b : Int)).run P w = _; rw [bits_xor rfl (by exact ha) (by exact hb)]; rfl)) h
theorem q_xor_u16 (hg : wants ⟨dst, .binOp .xor t x y t2, ty, pos, af, g⟩ ops e = true) (hx : ev e x = .int .u16 a) (hy : ev e y = .int .u16 b) (ha : a < 65536) (hb : b < 65536)
    (h : Wq P ops C K rest (put e dst (.int .u16 ((a ^^^ b : Nat) : Int)))) : Wq P ops C K (⟨dst, .binOp .xor t x y t2, ty, pos, af, g⟩ :: rest) e :=
  q_val hg (fun w _ => run_bin hx hy (by show (Op.intBits .xor .u16 (a : Int) (b : Int)).run P w = _; rw [bits_xor rfl (by exact ha) (by exact hb)]; rfl)) h
theorem op_shr_u16 (hg : wants ⟨dst, .binOp .shr t x y t2, ty, pos, af, g⟩ ops e = true) {k2 : IntKind} (hx : ev e x = .int .u16 a) (hy : ev e y = .int k2 n) (hn : n ≤ 16)
    (h : Wops P r ops Q rest (put e dst (.int .u16 ((a / 2 ^ n : Nat) : Int))) w) : Wops P r ops Q (⟨dst, .binOp .shr t x y t2, ty, pos, af, g⟩ :: rest) e w :=
  op_val hg rfl (run_bin hx hy (by show (Op.shift .shr .u16 (a : Int) k2 (n : Int)).run P w = _; rw [run_shr (by exact hn)]; rfl)) h
theorem q_shr_u16 (hg : wants ⟨dst, .binOp .shr t x y t2, ty, pos, af, g⟩ ops e = true) {k2 : IntKind} (hx : ev e x = .int .u16 a) (hy : ev e y = .int k2 n) (hn : n ≤ 16)
    (h : Wq P ops C K rest (put e dst (.int .u16 ((a / 2 ^ n : Nat) : Int)))) : Wq P ops C K (⟨dst, .binOp .shr t x y t2, ty, pos, af, g⟩ :: rest) e :=
  q_val hg (fun w _ => run_bin hx hy (by show (Op.shift .shr .u16 (a : Int) k2 (n : Int)).run P w = _; rw [run_shr (by exact hn)]; rfl)) h
theorem op_shl_u16 (hg : wants ⟨dst, .binOp .shl t x y t2, ty, pos, af, g⟩ ops e = true) {k2 : IntKind} (hx : ev e x = .int .u16 a) (hy : ev e y = .int k2 n) (hn : n ≤ 16)
    (h : Wops P r ops Q rest (put e dst (.int .u16 ((a * 2 ^ n % 65536 : Nat) : Int))) w) : Wops P r ops Q (⟨dst, .binOp .shl t x y t2, ty, pos, af, g⟩ :: rest) e w :=
  op_val hg rfl (run_bin hx hy (by show (Op.shift .shl .u16 (a : Int) k2 (n : Int)).run P w = _; rw [run_shl rfl (by exact hn)]; rfl)) h
theorem q_shl_u16 (hg : wants ⟨dst, .binOp .shl t x y t2, ty, pos, af, g⟩ ops e = true) {k2 : IntKind} (hx : ev e x = .int .u16 a) (hy : ev e y = .int k2 n) (hn : n ≤ 16)
    (h : Wq P ops C K rest (put e dst (.int .u16 ((a * 2 ^ n % 65536 : Nat) : Int)))) : Wq P ops C K (⟨dst, .binOp .shl t x y t2, ty, pos, af, g⟩ :: rest) e :=
  q_val hg (fun w _ => run_bin hx hy (by show (Op.shift .shl .u16 (a : Int) k2 (n : Int)).run P w = _; rw [run_shl rfl (by exact hn)]; rfl)) h
theorem op_addw_u16 (hg : wants ⟨dst, .binOp .add t x y t2, ty, pos, af, g⟩ ops e = true) (hx : ev e x = .int .u16 a) (hy : ev e y = .int .u16 b)
    (h : Wops P r ops Q rest (put e dst (.int .u16 (((a + b) % 65536 : Nat) : Int))) w) : Wops P r ops Q (⟨dst, .binOp .add t x y t2, ty, pos, af, g⟩ :: rest) e w :=
  op_val hg rfl (run_bin hx hy (run_addw (k := .u16) rfl t a b _)) h
theorem q_addw_u16 (hg : wants ⟨dst, .binOp .add t x y t2, ty, pos, af, g⟩ ops e = true) (hx : ev e x = .int .u16 a) (hy : ev e y = .int .u16 b)
    (h : Wq P ops C K rest (put e dst (.int .u16 (((a + b) % 65536 : Nat) : Int)))) : Wq P ops C K (⟨dst, .binOp .add t x y t2, ty, pos, af, g⟩ :: rest) e :=
  q_val hg (fun _ _ => run_bin hx hy (run_addw (k := .u16) rfl t a b _)) h
theorem op_mulw_u16 (hg : wants ⟨dst, .binOp .mul t x y t2, ty, pos, af, g⟩ ops e = true) (hx : ev e x = .int .u16 a) (hy : ev e y = .int .u16 b)
    (h : Wops P r ops Q rest (put e dst (.int .u16 (((a * b) % 65536 : Nat) : Int))) w) : Wops P r ops Q (⟨dst, .binOp .mul t x y t2, ty, pos, af, g⟩ :: rest) e w :=
  op_val hg rfl (run_bin hx hy (run_mulw (k := .u16) rfl t a b _)) h
theorem q_mulw_u16 (hg : wants ⟨dst, .binOp .mul t x y t2, ty, pos, af, g⟩ ops e = true) (hx : ev e x = .int .u16 a) (hy : ev e y = .int .u16 b)
    (h : Wq P ops C K rest (put e dst (.int .u16 (((a * b) % 65536 : Nat) : Int)))) : Wq P ops C K (⟨dst, .binOp .mul t x y t2, ty, pos, af, g⟩ :: rest) e :=
  q_val hg (fun _ _ => run_bin hx hy (run_mulw (k := .u16) rfl t a b _)) h
theorem op_com_u16 (hg : wants ⟨dst, .unOp .xor t x, ty, pos, af, g⟩ ops e = true) (hx : ev e x = .int .u16 a) (ha : a < 65536)
    (h : Wops P r ops Q rest (put e dst (.int .u16 ((65535 ^^^ a : Nat) : Int))) w) : Wops P r ops Q (⟨dst, .unOp .xor t x, ty, pos, af, g⟩ :: rest) e w :=
  op_val hg rfl (run_comw (k := .u16) rfl hx (by exact ha)) h
theorem q_com_u16 (hg : wants ⟨dst, .unOp .xor t x, ty, pos, af, g⟩ ops e = true) (hx : ev e x = .int .u16 a) (ha : a < 65536)
    (h : Wq P ops C K rest (put e dst (.int .u16 ((65535 ^^^ a : Nat) : Int)))) : Wq P ops C K (⟨dst, .unOp .xor t x, ty, pos, af, g⟩ :: rest) e :=
  q_val hg (fun _ _ => run_comw (k := .u16) rfl hx (by exact ha)) h
theorem op_convn_u16 (hg : wants ⟨dst, .convert s d x, ty, pos, af, g⟩ ops e = true) {k1 : IntKind} {ds : TypeDesc} (hx : ev e x = .int k1 a) (hs : P.underlying s = some ds) (hd : P.underlying d = some (.int .u16))
    (h : Wops P r ops Q rest (put e dst (.int .u16 ((a % 65536 : Nat) : Int))) w) : Wops P r ops Q (⟨dst, .convert s d x, ty, pos, af, g⟩ :: rest) e w :=
  op_val hg rfl (run_convn (k := .u16) rfl hx hs hd) h
theorem q_convn_u16 (hg : wants ⟨dst, .convert s d x, ty, pos, af, g⟩ ops e = true) {k1 : IntKind} {ds : TypeDesc} (hx : ev e x = .int k1 a) (hs : P.underlying s = some ds) (hd : P.underlying d = some (.int .u16))
    (h : Wq P ops C K rest (put e dst (.int .u16 ((a % 65536 : Nat) : Int)))) : Wq P ops C K (⟨dst, .convert s d x, ty, pos, af, g⟩ :: rest) e :=
  q_val hg (fun _ _ => run_convn (k := .u16) rfl hx hs hd) h
theorem op_and_u32 (hg : wants ⟨dst, .binOp .and t x y t2, ty, pos, af, g⟩ ops e = true) (hx : ev e x = .int .u32 a) (hy : ev e y = .int .u32 b) (ha : a < 4294967296) (hb : b < 4294967296)
    (h : Wops P r ops Q rest (put e dst (.int .u32 ((a &&& b : Nat) : Int))) w) : Wops P r ops Q (⟨dst, .binOp .and t x y t2, ty, pos, af, g⟩ :: rest) e w :=
  op_val hg rfl (run_bin hx hy (by show (Op.intBits .and .u32 (a : Int) (b : Int)).run P w = _; rw [bits_and rfl (by exact ha) (by exact hb)]; rfl)) h
theorem q_and_u32 (hg : wants ⟨dst, .binOp .and t x y t2, ty, pos, af, g⟩ ops e = true) (hx : ev e x = .int .u32 a) (hy : ev e y = .int .u32 b) (ha : a < 4294967296) (hb : b < 4294967296)
    (h : Wq P ops C K rest (put e dst (.int .u32 ((a &&& b : Nat) : Int)))) : Wq P ops C K (⟨dst, .binOp .and t x y t2, ty, pos, af, g⟩ :: rest) e :=
  q_val hg (fun w _ => run_bin hx hy (by show (Op.intBits .and .u32 (a : Int) (b : Int)).run P w = _; rw [bits_and rfl (by exact ha) (by exact hb)]; rfl)) h
theorem op_or_u32 (hg : wants ⟨dst, .binOp .or t x y t2, ty, pos, af, g⟩ ops e = true) (hx : ev e x = .int .u32 a) (hy : ev e y = .int .u32 b) (ha : a < 4294967296) (hb : b < 4294967296)
    (h : Wops P r ops Q rest (put e dst (.int .u32 ((a ||| b : Nat) : Int))) w) : Wops P r ops Q (⟨dst, .binOp .or t x y t2, ty, pos, af, g⟩ :: rest) e w :=
  op_val hg rfl (run_bin hx hy (by show (Op.intBits .or .u32 (a : Int) (b : Int)).run P w = _; rw [bits_or rfl (by exact ha) (by exact hb)]; rfl)) h
theorem q_or_u32 (hg : wants ⟨dst, .binOp .or t x y t2, ty, pos, af, g⟩ ops e = true) (hx : ev e x = .int .u32 a) (hy : ev e y = .int .u32 b) (ha : a < 4294967296) (hb : b < 4294967296)
    (h : Wq P ops C K rest (put e dst (.int .u32 ((a ||| b : Nat) : Int)))) : Wq P ops C K (⟨dst, .binOp .or t x y t2, ty, pos, af, g⟩ :: rest) e :=
  q_val hg (fun w _ => run_bin hx hy (by show (Op.intBits .or .u32 (a : Int) (b : Int)).run P w = _; rw [bits_or rfl (by exact ha) (by exact hb)]; rfl)) h
theorem op_xor_u32 (hg : wants ⟨dst, .binOp .xor t x y t2, ty, pos, af, g⟩ ops e = true) (hx : ev e x = .int .u32 a) (hy : ev e y = .int .u32 b) (ha : a < 4294967296) (hb : b < 4294967296)
    (h : Wops P r ops Q rest (put e dst (.int .u32 ((a ^^^ b : Nat) : Int))) w) : Wops P r ops Q (⟨dst, .binOp .xor t x y t2, ty, pos, af, g⟩ :: rest) e w :=
  op_val hg rfl (run_bin hx hy (by show (Op.intBits .xor .u32 (a : Int) (b : Int)).run P w = _; rw [bits_xor rfl (by exact ha) (by exact hb)]; rfl)) h
theorem q_xor_u32 (hg : wants ⟨dst, .binOp .xor t x y t2, ty, pos, af, g⟩ ops e = true) (hx : ev e x = .int .u32 a) (hy : ev e y = .int .u32 b) (ha : a < 4294967296) (hb : b < 4294967296)
    (h : Wq P ops C K rest (put e dst (.int .u32 ((a ^^^ b : Nat) : Int)))) : Wq P ops C K (⟨dst, .binOp .xor t x y t2, ty, pos, af, g⟩ :: rest) e :=
  q_val hg (fun w _ => run_bin hx hy (by show (Op.intBits .xor .u32 (a : Int) (b : Int)).run P w = _; rw [bits_xor rfl (by exact ha) (by exact hb)]; rfl)) h
theorem op_shr_u32 (hg : wants ⟨dst, .binOp .shr t x y t2, ty, pos, af, g⟩ ops e = true) {k2 : IntKind} (hx : ev e x = .int .u32 a) (hy : ev e y = .int k2 n) (hn : n ≤ 32)
    (h : Wops P r ops Q rest (put e dst (.int .u32 ((a / 2 ^ n : Nat) : Int))) w) : Wops P r ops Q (⟨dst, .binOp .shr t x y t2, ty, pos, af, g⟩ :: rest) e w :=
  op_val hg rfl (run_bin hx hy (by show (Op.shift .shr .u32 (a : Int) k2 (n : Int)).run P w = _; rw [run_shr (by exact hn)]; rfl)) h
theorem q_shr_u32 (hg : wants ⟨dst, .binOp .shr t x y t2, ty, pos, af, g⟩ ops e = true) {k2 : IntKind} (hx : ev e x = .int .u32 a) (hy : ev e y = .int k2 n) (hn : n ≤ 32)
    (h : Wq P ops C K rest (put e dst (.int .u32 ((a / 2 ^ n : Nat) : Int)))) : Wq P ops C K (⟨dst, .binOp .shr t x y t2, ty, pos, af, g⟩ :: rest) e :=
  q_val hg (fun w _ => run_bin hx hy (by show (Op.shift .shr .u32 (a : Int) k2 (n : Int)).run P w = _; rw [run_shr (by exact hn)]; rfl)) h
theorem op_shl_u32 (hg : wants ⟨dst, .binOp .shl t x y t2, ty, pos, af, g⟩ ops e = true) {k2 : IntKind} (hx : ev e x = .int .u32 a) (hy : ev e y = .int k2 n) (hn : n ≤ 32)
    (h : Wops P r ops Q rest (put e dst (.int .u32 ((a * 2 ^ n % 4294967296 : Nat) : Int))) w) : Wops P r ops Q (⟨dst, .binOp .shl t x y t2, ty, pos, af, g⟩ :: rest) e w :=
  op_val hg rfl (run_bin hx hy (by show (Op.shift .shl .u32 (a : Int) k2 (n : Int)).run P w = _; rw [run_shl rfl (by exact hn)]; rfl)) h
theorem q_shl_u32 (hg : wants ⟨dst, .binOp .shl t x y t2, ty, pos, af, g⟩ ops e = true) {k2 : IntKind} (hx : ev e x = .int .u32 a) (hy : ev e y = .int k2 n) (hn : n ≤ 32)
    (h : Wq P ops C K rest (put e dst (.int .u32 ((a * 2 ^ n % 4294967296 : Nat) : Int)))) : Wq P ops C K (⟨dst, .binOp .shl t x y t2, ty, pos, af, g⟩ :: rest) e :=
  q_val hg (fun w _ => run_bin hx hy (by show (Op.shift .shl .u32 (a : Int) k2 (n : Int)).run P w = _; rw [run_shl rfl (by exact hn)]; rfl)) h
theorem op_addw_u32 (hg : wants ⟨dst, .binOp .add t x y t2, ty, pos, af, g⟩ ops e = true) (hx : ev e x = .int .u32 a) (hy : ev e y = .int .u32 b)
    (h : Wops P r ops Q rest (put e dst (.int .u32 (((a + b) % 4294967296 : Nat) : Int))) w) : Wops P r ops Q (⟨dst, .binOp .add t x y t2, ty, pos, af, g⟩ :: rest) e w :=
  op_val hg rfl (run_bin hx hy (run_addw (k := .u32) rfl t a b _)) h
theorem q_addw_u32 (hg : wants ⟨dst, .binOp .add t x y t2, ty, pos, af, g⟩ ops e = true) (hx : ev e x = .int .u32 a) (hy : ev e y = .int .u32 b)
    (h : Wq P ops C K rest (put e dst (.int .u32 (((a + b) % 4294967296 : Nat) : Int)))) : Wq P ops C K (⟨dst, .binOp .add t x y t2, ty, pos, af, g⟩ :: rest) e :=
  q_val hg (fun _ _ => run_bin hx hy (run_addw (k := .u32) rfl t a b _)) h
theorem op_mulw_u32 (hg : wants ⟨dst, .binOp .mul t x y t2, ty, pos, af, g⟩ ops e = true) (hx : ev e x = .int .u32 a) (hy : ev e y = .int .u32 b)
    (h : Wops P r ops Q rest (put e dst (.int .u32 (((a * b) % 4294967296 : Nat) : Int))) w) : Wops P r ops Q (⟨dst, .binOp .mul t x y t2, ty, pos, af, g⟩ :: rest) e w :=
  op_val hg rfl (run_bin hx hy (run_mulw (k := .u32) rfl t a b _)) h
theorem q_mulw_u32 (hg : wants ⟨dst, .binOp .mul t x y t2, ty, pos, af, g⟩ ops e = true) (hx : ev e x = .int .u32 a) (hy : ev e y = .int .u32 b)
    (h : Wq P ops C K rest (put e dst (.int .u32 (((a * b) % 4294967296 : Nat) : Int)))) : Wq P ops C K (⟨dst, .binOp .mul t x y t2, ty, pos, af, g⟩ :: rest) e :=
  q_val hg (fun _ _ => run_bin hx hy (run_mulw (k := .u32) rfl t a b _)) h
theorem op_com_u32 (hg : wants ⟨dst, .unOp .xor t x, ty, pos, af, g⟩ ops e = true) (hx : ev e x = .int .u32 a) (ha : a < 4294967296)
    (h : Wops P r ops Q rest (put e dst (.int .u32 ((4294967295 ^^^ a : Nat) : Int))) w) : Wops P r ops Q (⟨dst, .unOp .xor t x, ty, pos, af, g⟩ :: rest) e w :=
  op_val hg rfl (run_comw (k := .u32) rfl hx (by exact ha)) h
theorem q_com_u32 (hg : wants ⟨dst, .unOp .xor t x, ty, pos, af, g⟩ ops e = true) (hx : ev e x = .int .u32 a) (ha : a < 4294967296)
    (h : Wq P ops C K rest (put e dst (.int .u32 ((4294967295 ^^^ a : Nat) : Int)))) : Wq P ops C K (⟨dst, .unOp .xor t x, ty, pos, af, g⟩ :: rest) e :=
  q_val hg (fun _ _ => run_comw (k := .u32) rfl hx (by exact ha)) h
theorem op_convn_u32 (hg : wants ⟨dst, .convert s d x, ty, pos, af, g⟩ ops e = true) {k1 : IntKind} {ds : TypeDesc} (hx : ev e x = .int k1 a) (hs : P.underlying s = some ds) (hd : P.underlying d = some (.int .u32))
    (h : Wops P r ops Q rest (put e dst (.int .u32 ((a % 4294967296 : Nat) : Int))) w) : Wops P r ops Q (⟨dst, .convert s d x, ty, pos, af, g⟩ :: rest) e w :=
  op_val hg rfl (run_convn (k := .u32) rfl hx hs hd) h
theorem q_convn_u32 (hg : wants ⟨dst, .convert s d x, ty, pos, af, g⟩ ops e = true) {k1 : IntKind} {ds : TypeDesc} (hx : ev e x = .int k1 a) (hs : P.underlying s = some ds) (hd : P.underlying d = some (.int .u32))
    (h : Wq P ops C K rest (put e dst (.int .u32 ((a % 4294967296 : Nat) : Int)))) : Wq P ops C K (⟨dst, .convert s d x, ty, pos, af, g⟩ :: rest) e :=
  q_val hg (fun _ _ => run_convn (k := .u32) rfl hx hs hd) h
theorem op_and_u64 (hg : wants ⟨dst, .binOp .and t x y t2, ty, pos, af, g⟩ ops e = true) (hx : ev e x = .int .u64 a) (hy : ev e y = .int .u64 b) (ha : a < 18446744073709551616) (hb : b < 18446744073709551616)
    (h : Wops P r ops Q rest (put e dst (.int .u64 ((a &&& b : Nat) : Int))) w) : Wops P r ops Q (⟨dst, .binOp .and t x y t2, ty, pos, af, g⟩ :: rest) e w :=
  op_val hg rfl (run_bin hx hy (by show (Op.intBits .and .u64 (a : Int) (b : Int)).run P w = _; rw [bits_and rfl (by exact ha) (by exact hb)]; rfl)) h
theorem q_and_u64 (hg : wants ⟨dst, .binOp .and t x y t2, ty, pos, af, g⟩ ops e = true) (hx : ev e x = .int .u64 a) (hy : ev e y = .int .u64 b) (ha : a < 18446744073709551616) (hb : b < 18446744073709551616)
    (h : Wq P ops C K rest (put e dst (.int .u64 ((a &&& b : Nat) : Int)))) : Wq P ops C K (⟨dst, .binOp .and t x y t2, ty, pos, af, g⟩ :: rest) e :=
  q_val hg (fun w _ => run_bin hx hy (by show (Op.intBits .and .u64 (a : Int) (b : Int)).run P w = _; rw [bits_and rfl (by exact ha) (by exact hb)]; rfl)) h
theorem op_or_u64 (hg : wants ⟨dst, .binOp .or t x y t2, ty, pos, af, g⟩ ops e = true) (hx : ev e x = .int .u64 a) (hy : ev e y = .int .u64 b) (ha : a < 18446744073709551616) (hb : b < 18446744073709551616)
    (h : Wops P r ops Q rest (put e dst (.int .u64 ((a ||| b : Nat) : Int))) w) : Wops P r ops Q (⟨dst, .binOp .or t x y t2, ty, pos, af, g⟩ :: rest) e w :=
  op_val hg rfl (run_bin hx hy (by show (Op.intBits .or .u64 (a : Int) (b : Int)).run P w = _; rw [bits_or rfl (by exact ha) (by exact hb)]; rfl)) h
theorem q_or_u64 (hg : wants ⟨dst, .binOp .or t x y t2, ty, pos, af, g⟩ ops e = true) (hx : ev e x = .int .u64 a) (hy : ev e y = .int .u64 b) (ha : a < 18446744073709551616) (hb : b < 18446744073709551616)
    (h : Wq P ops C K rest (put e dst (.int .u64 ((a ||| b : Nat) : Int)))) : Wq P ops C K (⟨dst, .binOp .or t x y t2, ty, pos, af, g⟩ :: rest) e :=
  q_val hg (fun w _ => run_bin hx hy (by show (Op.intBits .or .u64 (a : Int) (b : Int)).run P w = _; rw [bits_or rfl (by exact ha) (by exact hb)]; rfl)) h
theorem op_xor_u64 (hg : wants ⟨dst, .binOp .xor t x y t2, ty, pos, af, g⟩ ops e = true) (hx : ev e x = .int .u64 a) (hy : ev e y = .int .u64 b) (ha : a < 18446744073709551616) (hb : b < 18446744073709551616)
    (h : Wops P r ops Q rest (put e dst (.int .u64 ((a ^^^ b : Nat) : Int))) w) : Wops P r ops Q (⟨dst, .binOp .xor t x y t2, ty, pos, af, g⟩ :: rest) e w :=
  op_val hg rfl (run_bin hx hy (by show (Op.intBits .xor .u64 (a : Int) (b : Int)).run P w = _; rw [bits_xor rfl (by exact ha) (by exact hb)]; rfl)) h
theorem q_xor_u64 (hg : wants ⟨dst, .binOp .xor t x y t2, ty, pos, af, g⟩ ops e = true) (hx : ev e x = .int .u64 a) (hy : ev e y = .int .u64 b) (ha : a < 18446744073709551616) (hb : b < 18446744073709551616)
    (h : Wq P ops C K rest (put e dst (.int .u64 ((a ^^^ b : Nat) : Int)))) : Wq P ops C K (⟨dst, .binOp .xor t x y t2, ty, pos, af, g⟩ :: rest) e :=
  q_val hg (fun w _ => run_bin hx hy (by show (Op.intBits .xor .u64 (a : Int) (b : Int)).run P w = _; rw [bits_xor rfl (by exact ha) (by exact hb)]; rfl)) h
theorem op_shr_u64 (hg : wants ⟨dst, .binOp .shr t x y t2, ty, pos, af, g⟩ ops e = true) {k2 : IntKind} (hx : ev e x = .int .u64 a) (hy : ev e y = .int k2 n) (hn : n ≤ 64)
    (h : Wops P r ops Q rest (put e dst (.int .u64 ((a / 2 ^ n : Nat) : Int))) w) : Wops P r ops Q (⟨dst, .binOp .shr t x y t2, ty, pos, af, g⟩ :: rest) e w :=
  op_val hg rfl (run_bin hx hy (by show (Op.shift .shr .u64 (a : Int) k2 (n : Int)).run P w = _; rw [run_shr (by exact hn)]; rfl)) h
theorem q_shr_u64 (hg : wants ⟨dst, .binOp .shr t x y t2, ty, pos, af, g⟩ ops e = true) {k2 : IntKind} (hx : ev e x = .int .u64 a) (hy : ev e y = .int k2 n) (hn : n ≤ 64)
    (h : Wq P ops C K rest (put e dst (.int .u64 ((a / 2 ^ n : Nat) : Int)))) : Wq P ops C K (⟨dst, .binOp .shr t x y t2, ty, pos, af, g⟩ :: rest) e :=
  q_val hg (fun w _ => run_bin hx hy (by show (Op.shift .shr .u64 (a : Int) k2 (n : Int)).run P w = _; rw [run_shr (by exact hn)]; rfl)) h
theorem op_shl_u64 (hg : wants ⟨dst, .binOp .shl t x y t2, ty, pos, af, g⟩ ops e = true) {k2 : IntKind} (hx : ev e x = .int .u64 a) (hy : ev e y = .int k2 n) (hn : n ≤ 64)
    (h : Wops P r ops Q rest (put e dst (.int .u64 ((a * 2 ^ n % 18446744073709551616 : Nat) : Int))) w) : Wops P r ops Q (⟨dst, .binOp .shl t x y t2, ty, pos, af, g⟩ :: rest) e w :=
  op_val hg rfl (run_bin hx hy (by show (Op.shift .shl .u64 (a : Int) k2 (n : Int)).run P w = _; rw [run_shl rfl (by exact hn)]; rfl)) h
theorem q_shl_u64 (hg : wants ⟨dst, .binOp .shl t x y t2, ty, pos, af, g⟩ ops e = true) {k2 : IntKind} (hx : ev e x = .int .u64 a) (hy : ev e y = .int k2 n) (hn : n ≤ 64)
    (h : Wq P ops C K rest (put e dst (.int .u64 ((a * 2 ^ n % 18446744073709551616 : Nat) : Int)))) : Wq P ops C K (⟨dst, .binOp .shl t x y t2, ty, pos, af, g⟩ :: rest) e :=
  q_val hg (fun w _ => run_bin hx hy (by show (Op.shift .shl .u64 (a : Int) k2 (n : Int)).run P w = _; rw [run_shl rfl (by exact hn)]; rfl)) h
theorem op_addw_u64 (hg : wants ⟨dst, .binOp .add t x y t2, ty, pos, af, g⟩ ops e = true) (hx : ev e x = .int .u64 a) (hy : ev e y = .int .u64 b)
    (h : Wops P r ops Q rest (put e dst (.int .u64 (((a + b) % 18446744073709551616 : Nat) : Int))) w) : Wops P r ops Q (⟨dst, .binOp .add t x y t2, ty, pos, af, g⟩ :: rest) e w :=
  op_val hg rfl (run_bin hx hy (run_addw (k := .u64) rfl t a b _)) h
theorem q_addw_u64 (hg : wants ⟨dst, .binOp .add t x y t2, ty, pos, af, g⟩ ops e = true) (hx : ev e x = .int .u64 a) (hy : ev e y = .int .u64 b)
    (h : Wq P ops C K rest (put e dst (.int .u64 (((a + b) % 18446744073709551616 : Nat) : Int)))) : Wq P ops C K (⟨dst, .binOp .add t x y t2, ty, pos, af, g⟩ :: rest) e :=
  q_val hg (fun _ _ => run_bin hx hy (run_addw (k := .u64) rfl t a b _)) h
theorem op_mulw_u64 (hg : wants ⟨dst, .binOp .mul t x y t2, ty, pos, af, g⟩ ops e = true) (hx : ev e x = .int .u64 a) (hy : ev e y = .int .u64 b)
    (h : Wops P r ops Q rest (put e dst (.int .u64 (((a * b) % 18446744073709551616 : Nat) : Int))) w) : Wops P r ops Q (⟨dst, .binOp .mul t x y t2, ty, pos, af, g⟩ :: rest) e w :=
  op_val hg rfl (run_bin hx hy (run_mulw (k := .u64) rfl t a b _)) h
theorem q_mulw_u64 (hg : wants ⟨dst, .binOp .mul t x y t2, ty, pos, af, g⟩ ops e = true) (hx : ev e x = .int .u64 a) (hy : ev e y = .int .u64 b)
    (h : Wq P ops C K rest (put e dst (.int .u64 (((a * b) % 18446744073709551616 : Nat) : Int)))) : Wq P ops C K (⟨dst, .binOp .mul t x y t2, ty, pos, af, g⟩ :: rest) e :=
  q_val hg (fun _ _ => run_bin hx hy (run_mulw (k := .u64) rfl t a b _)) h
theorem op_com_u64 (hg : wants ⟨dst, .unOp .xor t x, ty, pos, af, g⟩ ops e = true) (hx : ev e x = .int .u64 a) (ha : a < 18446744073709551616)
    (h : Wops P r ops Q rest (put e dst (.int .u64 ((18446744073709551615 ^^^ a : Nat) : Int))) w) : Wops P r ops Q (⟨dst, .unOp .xor t x, ty, pos, af, g⟩ :: rest) e w :=
  op_val hg rfl (run_comw (k := .u64) rfl hx (by exact ha)) h
theorem q_com_u64 (hg : wants ⟨dst, .unOp .xor t x, ty, pos, af, g⟩ ops e = true) (hx : ev e x = .int .u64 a) (ha : a < 18446744073709551616)
    (h : Wq P ops C K rest (put e dst (.int .u64 ((18446744073709551615 ^^^ a : Nat) : Int)))) : Wq P ops C K (⟨dst, .unOp .xor t x, ty, pos, af, g⟩ :: rest) e :=
  q_val hg (fun _ _ => run_comw (k := .u64) rfl hx (by exact ha)) h
theorem op_convn_u64 (hg : wants ⟨dst, .convert s d x, ty, pos, af, g⟩ ops e = true) {k1 : IntKind} {ds : TypeDesc} (hx : ev e x = .int k1 a) (hs : P.underlying s = some ds) (hd : P.underlying d = some (.int .u64))
    (h : Wops P r ops Q rest (put e dst (.int .u64 ((a % 18446744073709551616 : Nat) : Int))) w) : Wops P r ops Q (⟨dst, .convert s d x, ty, pos, af, g⟩ :: rest) e w :=
  op_val hg rfl (run_convn (k := .u64) rfl hx hs hd) h
theorem q_convn_u64 (hg : wants ⟨dst, .convert s d x, ty, pos, af, g⟩ ops e = true) {k1 : IntKind} {ds : TypeDesc} (hx : ev e x = .int k1 a) (hs : P.underlying s = some ds) (hd : P.underlying d = some (.int .u64))
    (h : Wq P ops C K rest (put e dst (.int .u64 ((a % 18446744073709551616 : Nat) : Int)))) : Wq P ops C K (⟨dst, .convert s d x, ty, pos, af, g⟩ :: rest) e :=
  q_val hg (fun _ _ => run_convn (k := .u64) rfl hx hs hd) h
end
end Go.GV

/- The rules for operations that are carried out ahead within a region that draws its order; printed by mkmore.py. They hold for every program. -/
namespace Go.GV
open Go
section
variable {P : Program} {r : Option Nat} {ops rest : List Oper} {Q : Exit → Env → World → Prop} {e : Env} {w w0 : World} {S : List Nat} {L : List (Nat × Obj)}
  {dst : Option Tmp} {ty : TypeId} {pos : String} {af : Array Edge} {g : Option (Nat × Bool)} {C : World → Prop} {K : Env → Prop}

theorem t_val {o : Oper} {v : Value} (hg : wants o ops e = true) (hrun : ∀ w, lax o = true ∨ C w → (execOp (ev e) o).run P w = .ok (.value v) w) (h : Wt P ops C K rest (put e o.dst v)) : Wt P ops C K (o :: rest) e := by
  unfold Wt
  rw [if_pos hg]
  exact ⟨v, hrun, h⟩
theorem t_valC {o : Oper} {v : Value} (hl : lax o = false) (hg : wants o ops e = true) (hrun : ∀ w, C w → (execOp (ev e) o).run P w = .ok (.value v) w) (h : Wt P ops C K rest (put e o.dst v)) : Wt P ops C K (o :: rest) e :=
  t_val hg (fun w hw => hrun w (hw.resolve_left (by rw [hl]; simp))) h
theorem t_skip {o : Oper} (hg : wants o ops e = false) (h : Wt P ops C K rest (put e o.dst undef)) : Wt P ops C K (o :: rest) e := by
  unfold Wt
  rw [if_neg (by rw [hg]; simp)]
  exact h
theorem t_nil (h : K e) : Wt P ops C K [] e := h
theorem Wt_known {l : List Oper} (d : Tmp) {b : Bool} (c : Bool) (hd : e.g d = .bool b) (hb : b = c) (h : Wt P ops C K l (put e (some d) (.bool c))) : Wt P ops C K l e := by
  subst hb
  rw [put_same_val hd] at h
  exact h
theorem Wt_split {l : List Oper} (d : Tmp) {b : Bool} (hd : e.g d = .bool b) (h1 : b = true → Wt P ops C K l (put e (some d) (.bool true)))
    (h2 : b = false → Wt P ops C K l (put e (some d) (.bool false))) : Wt P ops C K l e := by
  cases b with
  | true => exact Wt_known d true hd rfl (h1 rfl)
  | false => exact Wt_known d false hd rfl (h2 rfl)
section
variable {t t2 : TypeId} {x y : Operand} {k : IntKind} {a b : Int}
theorem t_ld {t : TypeId} {x : Operand} {p : Addr} {v : Value} (hg : wants ⟨dst, .load t x, ty, pos, af, g⟩ ops e = true) (ha : aggB P t = some false) (hx : ev e x = .pointer (some p)) (hc : ∀ w, C w → w.cell? p = some v)
    (h : Wt P ops C K rest (put e dst v)) : Wt P ops C K (⟨dst, .load t x, ty, pos, af, g⟩ :: rest) e :=
  t_valC rfl hg (fun w hw => by simp [execOp, hx, Instr.loadAt, Instr.sureAddr, run_load1 ha (hc w hw)]) h
theorem t_ldb {t t2 : TypeId} {x : Operand} {b i k : Nat} {l : List Value} {v : Value} (hg : wants ⟨dst, .load t x, ty, pos, af, g⟩ ops e = true) (ha : aggB P t = some false) (hx : ev e x = .pointer (some ⟨b, i, none⟩))
    (H : ∀ w, C w → Ctx w0 S w L) (hk : L[k]? = some (b, Bl t2 l)) (hc : l[i]? = some v)
    (h : Wt P ops C K rest (put e dst v)) : Wt P ops C K (⟨dst, .load t x, ty, pos, af, g⟩ :: rest) e :=
  t_ld hg ha hx (fun w hw => by rw [cell_bl ((H w hw).get hk)]; exact hc) h
theorem t_ldN {t : TypeId} {x : Operand} {b o s : Nat} (l : List Value) (hg : wants ⟨dst, .load t x, ty, pos, af, g⟩ ops e = true) (ha : aggB P t = some true) (hs : tsize P t = some s) (hx : ev e x = .pointer (some ⟨b, o, none⟩))
    (hl : l.length = s) (hc : ∀ w, C w → ∀ j v, l[j]? = some v → w.cell? ⟨b, o + j, none⟩ = some v)
    (h : Wt P ops C K rest (put e dst (.agg l.toArray))) : Wt P ops C K (⟨dst, .load t x, ty, pos, af, g⟩ :: rest) e :=
  t_valC rfl hg (fun w hw => by simp [execOp, hx, Instr.loadAt, Instr.sureAddr, run_loadN ha hs hl (hc w hw)]) h
theorem t_ldbN {t t2 : TypeId} {x : Operand} {b s k : Nat} {l : List Value} (hg : wants ⟨dst, .load t x, ty, pos, af, g⟩ ops e = true) (ha : aggB P t = some true) (hs : tsize P t = some s) (hx : ev e x = .pointer (some ⟨b, 0, none⟩))
    (H : ∀ w, C w → Ctx w0 S w L) (hk : L[k]? = some (b, Bl t2 l)) (hl : l.length = s)
    (h : Wt P ops C K rest (put e dst (.agg l.toArray))) : Wt P ops C K (⟨dst, .load t x, ty, pos, af, g⟩ :: rest) e :=
  t_ldN l hg ha hs hx hl (fun w hw j v hv => by rw [cell_bl ((H w hw).get hk), Nat.zero_add]; exact hv) h
theorem t_lss (hg : wants ⟨dst, .binOp .lss t x y t2, ty, pos, af, g⟩ ops e = true) (hx : ev e x = .int k a) (hy : ev e y = .int k b) (h : Wt P ops C K rest (put e dst (.bool (decide (a < b))))) :
    Wt P ops C K (⟨dst, .binOp .lss t x y t2, ty, pos, af, g⟩ :: rest) e := t_val hg (fun w _ => run_bin hx hy (by simp [binOp, Op.intCmp])) h
theorem t_leq (hg : wants ⟨dst, .binOp .leq t x y t2, ty, pos, af, g⟩ ops e = true) (hx : ev e x = .int k a) (hy : ev e y = .int k b) (h : Wt P ops C K rest (put e dst (.bool (decide (a ≤ b))))) :
    Wt P ops C K (⟨dst, .binOp .leq t x y t2, ty, pos, af, g⟩ :: rest) e := t_val hg (fun w _ => run_bin hx hy (by simp [binOp, Op.intCmp])) h
theorem t_gtr (hg : wants ⟨dst, .binOp .gtr t x y t2, ty, pos, af, g⟩ ops e = true) (hx : ev e x = .int k a) (hy : ev e y = .int k b) (h : Wt P ops C K rest (put e dst (.bool (decide (b < a))))) :
    Wt P ops C K (⟨dst, .binOp .gtr t x y t2, ty, pos, af, g⟩ :: rest) e := t_val hg (fun w _ => run_bin hx hy (by simp [binOp, Op.intCmp])) h
theorem t_geq (hg : wants ⟨dst, .binOp .geq t x y t2, ty, pos, af, g⟩ ops e = true) (hx : ev e x = .int k a) (hy : ev e y = .int k b) (h : Wt P ops C K rest (put e dst (.bool (decide (b ≤ a))))) :
    Wt P ops C K (⟨dst, .binOp .geq t x y t2, ty, pos, af, g⟩ :: rest) e := t_val hg (fun w _ => run_bin hx hy (by simp [binOp, Op.intCmp])) h
theorem t_eql (hg : wants ⟨dst, .binOp .eql t x y t2, ty, pos, af, g⟩ ops e = true) (hx : ev e x = .int k a) (hy : ev e y = .int k b) (h : Wt P ops C K rest (put e dst (.bool (decide (a = b))))) :
    Wt P ops C K (⟨dst, .binOp .eql t x y t2, ty, pos, af, g⟩ :: rest) e :=
  t_val hg (fun w _ => run_bin hx hy (v := .bool (decide (a = b))) (by simp [binOp, Op.intCmp]; rfl)) h
theorem t_neq (hg : wants ⟨dst, .binOp .neq t x y t2, ty, pos, af, g⟩ ops e = true) (hx : ev e x = .int k a) (hy : ev e y = .int k b) (h : Wt P ops C K rest (put e dst (.bool (!decide (a = b))))) :
    Wt P ops C K (⟨dst, .binOp .neq t x y t2, ty, pos, af, g⟩ :: rest) e :=
  t_val hg (fun w _ => run_bin hx hy (v := .bool (!decide (a = b))) (by simp [binOp, Op.intCmp]; rfl)) h

theorem t_quo (hg : wants ⟨dst, .binOp .quo t x y t2, ty, pos, af, g⟩ ops e = true) (hx : ev e x = .int k a) (hy : ev e y = .int k b) (h0 : 0 ≤ a) (hb : 0 < b) (h2 : a ≤ k.max)
    (h : Wt P ops C K rest (put e dst (.int k (a / b)))) : Wt P ops C K (⟨dst, .binOp .quo t x y t2, ty, pos, af, g⟩ :: rest) e := by
  refine t_val hg (fun w _ => run_bin hx hy (v := .int k (a / b)) ?_) h
  have h3 : a.tdiv b = a / b := Int.tdiv_eq_ediv_of_nonneg h0
  have h4 : 0 ≤ a / b := Int.ediv_nonneg h0 (by omega)
  have h5 : a / b ≤ a := Int.ediv_le_self _ h0
  have h6 : k.min ≤ 0 := by cases k <;> decide
  simp [binOp, Op.intDiv, h3, show ¬ b = 0 from by omega, wrap_in (k := k) (n := a / b) (by omega) (by omega)]
theorem t_rem (hg : wants ⟨dst, .binOp .rem t x y t2, ty, pos, af, g⟩ ops e = true) (hx : ev e x = .int k a) (hy : ev e y = .int k b) (h0 : 0 ≤ a) (hb : 0 < b)
    (h : Wt P ops C K rest (put e dst (.int k (a % b)))) : Wt P ops C K (⟨dst, .binOp .rem t x y t2, ty, pos, af, g⟩ :: rest) e := by
  refine t_val hg (fun w _ => run_bin hx hy (v := .int k (a % b)) ?_) h
  have h3 : a.tmod b = a % b := Int.tmod_eq_emod_of_nonneg h0
  simp [binOp, Op.intDiv, h3, show ¬ b = 0 from by omega]
theorem t_add_i64 (hg : wants ⟨dst, .binOp .add t x y t2, ty, pos, af, g⟩ ops e = true) (hx : ev e x = .int .i64 a) (hy : ev e y = .int .i64 b) (h1 : -9223372036854775808 ≤ a + b) (h2 : a + b ≤ 9223372036854775807)
    (h : Wt P ops C K rest (put e dst (.int .i64 (a + b)))) : Wt P ops C K (⟨dst, .binOp .add t x y t2, ty, pos, af, g⟩ :: rest) e := t_val hg (fun w _ => run_bin hx hy (by simp [binOp, Op.intArith, wrap_in (k := .i64) (n := a + b) h1 h2])) h
theorem t_sub_i64 (hg : wants ⟨dst, .binOp .sub t x y t2, ty, pos, af, g⟩ ops e = true) (hx : ev e x = .int .i64 a) (hy : ev e y = .int .i64 b) (h1 : -9223372036854775808 ≤ a - b) (h2 : a - b ≤ 9223372036854775807)
    (h : Wt P ops C K rest (put e dst (.int .i64 (a - b)))) : Wt P ops C K (⟨dst, .binOp .sub t x y t2, ty, pos, af, g⟩ :: rest) e := t_val hg (fun w _ => run_bin hx hy (by simp [binOp, Op.intArith, wrap_in (k := .i64) (n := a - b) h1 h2])) h
theorem t_mul_i64 (hg : wants ⟨dst, .binOp .mul t x y t2, ty, pos, af, g⟩ ops e = true) (hx : ev e x = .int .i64 a) (hy : ev e y = .int .i64 b) (h1 : -9223372036854775808 ≤ a * b) (h2 : a * b ≤ 9223372036854775807)
    (h : Wt P ops C K rest (put e dst (.int .i64 (a * b)))) : Wt P ops C K (⟨dst, .binOp .mul t x y t2, ty, pos, af, g⟩ :: rest) e := t_val hg (fun w _ => run_bin hx hy (by simp [binOp, Op.intArith, wrap_in (k := .i64) (n := a * b) h1 h2])) h
theorem t_neg_i64 (hg : wants ⟨dst, .unOp .neg t x, ty, pos, af, g⟩ ops e = true) (hx : ev e x = .int .i64 a) (h1 : -9223372036854775808 ≤ - a) (h2 : - a ≤ 9223372036854775807) (h : Wt P ops C K rest (put e dst (.int .i64 (- a)))) : Wt P ops C K (⟨dst, .unOp .neg t x, ty, pos, af, g⟩ :: rest) e := t_val hg (fun w _ => by simp [execOp, hx, Op.unary, Op.intArith, wrap_in (k := .i64) h1 h2]) h
theorem t_conv_i64 {s d : TypeId} {ds : TypeDesc} (hg : wants ⟨dst, .convert s d x, ty, pos, af, g⟩ ops e = true) (hx : ev e x = .int k a) (hs : P.underlying s = some ds) (hd : P.underlying d = some (.int .i64)) (h1 : -9223372036854775808 ≤ a) (h2 : a ≤ 9223372036854775807) (h : Wt P ops C K rest (put e dst (.int .i64 a))) : Wt P ops C K (⟨dst, .convert s d x, ty, pos, af, g⟩ :: rest) e :=
  t_val hg (fun w _ => by simp [execOp, hx, convert, run_under hs, run_under hd, Conv.intToInt, wrap_in (k := .i64) (n := a) h1 h2]) h
theorem t_add_i32 (hg : wants ⟨dst, .binOp .add t x y t2, ty, pos, af, g⟩ ops e = true) (hx : ev e x = .int .i32 a) (hy : ev e y = .int .i32 b) (h1 : -2147483648 ≤ a + b) (h2 : a + b ≤ 2147483647)
    (h : Wt P ops C K rest (put e dst (.int .i32 (a + b)))) : Wt P ops C K (⟨dst, .binOp .add t x y t2, ty, pos, af, g⟩ :: rest) e := t_val hg (fun w _ => run_bin hx hy (by simp [binOp, Op.intArith, wrap_in (k := .i32) (n := a + b) h1 h2])) h
theorem t_sub_i32 (hg : wants ⟨dst, .binOp .sub t x y t2, ty, pos, af, g⟩ ops e = true) (hx : ev e x = .int .i32 a) (hy : ev e y = .int .i32 b) (h1 : -2147483648 ≤ a - b) (h2 : a - b ≤ 2147483647)
    (h : Wt P ops C K rest (put e dst (.int .i32 (a - b)))) : Wt P ops C K (⟨dst, .binOp .sub t x y t2, ty, pos, af, g⟩ :: rest) e := t_val hg (fun w _ => run_bin hx hy (by simp [binOp, Op.intArith, wrap_in (k := .i32) (n := a - b) h1 h2])) h
theorem t_mul_i32 (hg : wants ⟨dst, .binOp .mul t x y t2, ty, pos, af, g⟩ ops e = true) (hx : ev e x = .int .i32 a) (hy : ev e y = .int .i32 b) (h1 : -2147483648 ≤ a * b) (h2 : a * b ≤ 2147483647)
    (h : Wt P ops C K rest (put e dst (.int .i32 (a * b)))) : Wt P ops C K (⟨dst, .binOp .mul t x y t2, ty, pos, af, g⟩ :: rest) e := t_val hg (fun w _ => run_bin hx hy (by simp [binOp, Op.intArith, wrap_in (k := .i32) (n := a * b) h1 h2])) h
theorem t_neg_i32 (hg : wants ⟨dst, .unOp .neg t x, ty, pos, af, g⟩ ops e = true) (hx : ev e x = .int .i32 a) (h1 : -2147483648 ≤ - a) (h2 : - a ≤ 2147483647) (h : Wt P ops C K rest (put e dst (.int .i32 (- a)))) : Wt P ops C K (⟨dst, .unOp .neg t x, ty, pos, af, g⟩ :: rest) e := t_val hg (fun w _ => by simp [execOp, hx, Op.unary, Op.intArith, wrap_in (k := .i32) h1 h2]) h
theorem t_conv_i32 {s d : TypeId} {ds : TypeDesc} (hg : wants ⟨dst, .convert s d x, ty, pos, af, g⟩ ops e = true) (hx : ev e x = .int k a) (hs : P.underlying s = some ds) (hd : P.underlying d = some (.int .i32)) (h1 : -2147483648 ≤ a) (h2 : a ≤ 2147483647) (h : Wt P ops C K rest (put e dst (.int .i32 a))) : Wt P ops C K (⟨dst, .convert s d x, ty, pos, af, g⟩ :: rest) e :=
  t_val hg (fun w _ => by simp [execOp, hx, convert, run_under hs, run_under hd, Conv.intToInt, wrap_in (k := .i32) (n := a) h1 h2]) h
theorem t_add_u8 (hg : wants ⟨dst, .binOp .add t x y t2, ty, pos, af, g⟩ ops e = true) (hx : ev e x = .int .u8 a) (hy : ev e y = .int .u8 b) (h1 : 0 ≤ a + b) (h2 : a + b ≤ 255)
    (h : Wt P ops C K rest (put e dst (.int .u8 (a + b)))) : Wt P ops C K (⟨dst, .binOp .add t x y t2, ty, pos, af, g⟩ :: rest) e := t_val hg (fun w _ => run_bin hx hy (by simp [binOp, Op.intArith, wrap_in (k := .u8) (n := a + b) h1 h2])) h
theorem t_sub_u8 (hg : wants ⟨dst, .binOp .sub t x y t2, ty, pos, af, g⟩ ops e = true) (hx : ev e x = .int .u8 a) (hy : ev e y = .int .u8 b) (h1 : 0 ≤ a - b) (h2 : a - b ≤ 255)
    (h : Wt P ops C K rest (put e dst (.int .u8 (a - b)))) : Wt P ops C K (⟨dst, .binOp .sub t x y t2, ty, pos, af, g⟩ :: rest) e := t_val hg (fun w _ => run_bin hx hy (by simp [binOp, Op.intArith, wrap_in (k := .u8) (n := a - b) h1 h2])) h
theorem t_mul_u8 (hg : wants ⟨dst, .binOp .mul t x y t2, ty, pos, af, g⟩ ops e = true) (hx : ev e x = .int .u8 a) (hy : ev e y = .int .u8 b) (h1 : 0 ≤ a * b) (h2 : a * b ≤ 255)
    (h : Wt P ops C K rest (put e dst (.int .u8 (a * b)))) : Wt P ops C K (⟨dst, .binOp .mul t x y t2, ty, pos, af, g⟩ :: rest) e := t_val hg (fun w _ => run_bin hx hy (by simp [binOp, Op.intArith, wrap_in (k := .u8) (n := a * b) h1 h2])) h
theorem t_conv_u8 {s d : TypeId} {ds : TypeDesc} (hg : wants ⟨dst, .convert s d x, ty, pos, af, g⟩ ops e = true) (hx : ev e x = .int k a) (hs : P.underlying s = some ds) (hd : P.underlying d = some (.int .u8)) (h1 : 0 ≤ a) (h2 : a ≤ 255) (h : Wt P ops C K rest (put e dst (.int .u8 a))) : Wt P ops C K (⟨dst, .convert s d x, ty, pos, af, g⟩ :: rest) e :=
  t_val hg (fun w _ => by simp [execOp, hx, convert, run_under hs, run_under hd, Conv.intToInt, wrap_in (k := .u8) (n := a) h1 h2]) h
theorem t_add_u16 (hg : wants ⟨dst, .binOp .add t x y t2, ty, pos, af, g⟩ ops e = true) (hx : ev e x = .int .u16 a) (hy : ev e y = .int .u16 b) (h1 : 0 ≤ a + b) (h2 : a + b ≤ 65535)
    (h : Wt P ops C K rest (put e dst (.int .u16 (a + b)))) : Wt P ops C K (⟨dst, .binOp .add t x y t2, ty, pos, af, g⟩ :: rest) e := t_val hg (fun w _ => run_bin hx hy (by simp [binOp, Op.intArith, wrap_in (k := .u16) (n := a + b) h1 h2])) h
theorem t_sub_u16 (hg : wants ⟨dst, .binOp .sub t x y t2, ty, pos, af, g⟩ ops e = true) (hx : ev e x = .int .u16 a) (hy : ev e y = .int .u16 b) (h1 : 0 ≤ a - b) (h2 : a - b ≤ 65535)
    (h : Wt P ops C K rest (put e dst (.int .u16 (a - b)))) : Wt P ops C K (⟨dst, .binOp .sub t x y t2, ty, pos, af, g⟩ :: rest) e := t_val hg (fun w _ => run_bin hx hy (by simp [binOp, Op.intArith, wrap_in (k := .u16) (n := a - b) h1 h2])) h
theorem t_mul_u16 (hg : wants ⟨dst, .binOp .mul t x y t2, ty, pos, af, g⟩ ops e = true) (hx : ev e x = .int .u16 a) (hy : ev e y = .int .u16 b) (h1 : 0 ≤ a * b) (h2 : a * b ≤ 65535)
    (h : Wt P ops C K rest (put e dst (.int .u16 (a * b)))) : Wt P ops C K (⟨dst, .binOp .mul t x y t2, ty, pos, af, g⟩ :: rest) e := t_val hg (fun w _ => run_bin hx hy (by simp [binOp, Op.intArith, wrap_in (k := .u16) (n := a * b) h1 h2])) h
theorem t_conv_u16 {s d : TypeId} {ds : TypeDesc} (hg : wants ⟨dst, .convert s d x, ty, pos, af, g⟩ ops e = true) (hx : ev e x = .int k a) (hs : P.underlying s = some ds) (hd : P.underlying d = some (.int .u16)) (h1 : 0 ≤ a) (h2 : a ≤ 65535) (h : Wt P ops C K rest (put e dst (.int .u16 a))) : Wt P ops C K (⟨dst, .convert s d x, ty, pos, af, g⟩ :: rest) e :=
  t_val hg (fun w _ => by simp [execOp, hx, convert, run_under hs, run_under hd, Conv.intToInt, wrap_in (k := .u16) (n := a) h1 h2]) h
theorem t_add_u32 (hg : wants ⟨dst, .binOp .add t x y t2, ty, pos, af, g⟩ ops e = true) (hx : ev e x = .int .u32 a) (hy : ev e y = .int .u32 b) (h1 : 0 ≤ a + b) (h2 : a + b ≤ 4294967295)
    (h : Wt P ops C K rest (put e dst (.int .u32 (a + b)))) : Wt P ops C K (⟨dst, .binOp .add t x y t2, ty, pos, af, g⟩ :: rest) e := t_val hg (fun w _ => run_bin hx hy (by simp [binOp, Op.intArith, wrap_in (k := .u32) (n := a + b) h1 h2])) h
theorem t_sub_u32 (hg : wants ⟨dst, .binOp .sub t x y t2, ty, pos, af, g⟩ ops e = true) (hx : ev e x = .int .u32 a) (hy : ev e y = .int .u32 b) (h1 : 0 ≤ a - b) (h2 : a - b ≤ 4294967295)
    (h : Wt P ops C K rest (put e dst (.int .u32 (a - b)))) : Wt P ops C K (⟨dst, .binOp .sub t x y t2, ty, pos, af, g⟩ :: rest) e := t_val hg (fun w _ => run_bin hx hy (by simp [binOp, Op.intArith, wrap_in (k := .u32) (n := a - b) h1 h2])) h
theorem t_mul_u32 (hg : wants ⟨dst, .binOp .mul t x y t2, ty, pos, af, g⟩ ops e = true) (hx : ev e x = .int .u32 a) (hy : ev e y = .int .u32 b) (h1 : 0 ≤ a * b) (h2 : a * b ≤ 4294967295)
    (h : Wt P ops C K rest (put e dst (.int .u32 (a * b)))) : Wt P ops C K (⟨dst, .binOp .mul t x y t2, ty, pos, af, g⟩ :: rest) e := t_val hg (fun w _ => run_bin hx hy (by simp [binOp, Op.intArith, wrap_in (k := .u32) (n := a * b) h1 h2])) h
theorem t_conv_u32 {s d : TypeId} {ds : TypeDesc} (hg : wants ⟨dst, .convert s d x, ty, pos, af, g⟩ ops e = true) (hx : ev e x = .int k a) (hs : P.underlying s = some ds) (hd : P.underlying d = some (.int .u32)) (h1 : 0 ≤ a) (h2 : a ≤ 4294967295) (h : Wt P ops C K rest (put e dst (.int .u32 a))) : Wt P ops C K (⟨dst, .convert s d x, ty, pos, af, g⟩ :: rest) e :=
  t_val hg (fun w _ => by simp [execOp, hx, convert, run_under hs, run_under hd, Conv.intToInt, wrap_in (k := .u32) (n := a) h1 h2]) h
theorem t_add_u64 (hg : wants ⟨dst, .binOp .add t x y t2, ty, pos, af, g⟩ ops e = true) (hx : ev e x = .int .u64 a) (hy : ev e y = .int .u64 b) (h1 : 0 ≤ a + b) (h2 : a + b ≤ 18446744073709551615)
    (h : Wt P ops C K rest (put e dst (.int .u64 (a + b)))) : Wt P ops C K (⟨dst, .binOp .add t x y t2, ty, pos, af, g⟩ :: rest) e := t_val hg (fun w _ => run_bin hx hy (by simp [binOp, Op.intArith, wrap_in (k := .u64) (n := a + b) h1 h2])) h
theorem t_sub_u64 (hg : wants ⟨dst, .binOp .sub t x y t2, ty, pos, af, g⟩ ops e = true) (hx : ev e x = .int .u64 a) (hy : ev e y = .int .u64 b) (h1 : 0 ≤ a - b) (h2 : a - b ≤ 18446744073709551615)
    (h : Wt P ops C K rest (put e dst (.int .u64 (a - b)))) : Wt P ops C K (⟨dst, .binOp .sub t x y t2, ty, pos, af, g⟩ :: rest) e := t_val hg (fun w _ => run_bin hx hy (by simp [binOp, Op.intArith, wrap_in (k := .u64) (n := a - b) h1 h2])) h
theorem t_mul_u64 (hg : wants ⟨dst, .binOp .mul t x y t2, ty, pos, af, g⟩ ops e = true) (hx : ev e x = .int .u64 a) (hy : ev e y = .int .u64 b) (h1 : 0 ≤ a * b) (h2 : a * b ≤ 18446744073709551615)
    (h : Wt P ops C K rest (put e dst (.int .u64 (a * b)))) : Wt P ops C K (⟨dst, .binOp .mul t x y t2, ty, pos, af, g⟩ :: rest) e := t_val hg (fun w _ => run_bin hx hy (by simp [binOp, Op.intArith, wrap_in (k := .u64) (n := a * b) h1 h2])) h
theorem t_conv_u64 {s d : TypeId} {ds : TypeDesc} (hg : wants ⟨dst, .convert s d x, ty, pos, af, g⟩ ops e = true) (hx : ev e x = .int k a) (hs : P.underlying s = some ds) (hd : P.underlying d = some (.int .u64)) (h1 : 0 ≤ a) (h2 : a ≤ 18446744073709551615) (h : Wt P ops C K rest (put e dst (.int .u64 a))) : Wt P ops C K (⟨dst, .convert s d x, ty, pos, af, g⟩ :: rest) e :=
  t_val hg (fun w _ => by simp [execOp, hx, convert, run_under hs, run_under hd, Conv.intToInt, wrap_in (k := .u64) (n := a) h1 h2]) h
theorem t_move {x : Operand} (hg : wants ⟨dst, .move x, ty, pos, af, g⟩ ops e = true) (v : Value) (hx : ev e x = v) (h : Wt P ops C K rest (put e dst v)) :
    Wt P ops C K (⟨dst, .move x, ty, pos, af, g⟩ :: rest) e := t_val hg (fun w _ => by simp [execOp, hx]) h
theorem t_assign {x : Operand} (hg : wants ⟨dst, .assign x, ty, pos, af, g⟩ ops e = true) (v : Value) (hx : ev e x = v) (h : Wt P ops C K rest (put e dst v)) :
    Wt P ops C K (⟨dst, .assign x, ty, pos, af, g⟩ :: rest) e := t_val hg (fun w _ => by simp [execOp, hx]) h
theorem t_pick1 {c a b : Operand} (hg : wants ⟨dst, .pick c a b, ty, pos, af, g⟩ ops e = true) (hc : ev e c = .bool true) (v : Value) (hx : ev e a = v) (h : Wt P ops C K rest (put e dst v)) :
    Wt P ops C K (⟨dst, .pick c a b, ty, pos, af, g⟩ :: rest) e := t_val hg (fun w _ => by simp [execOp, hc, hx, asBool]) h
theorem t_pick0 {c a b : Operand} (hg : wants ⟨dst, .pick c a b, ty, pos, af, g⟩ ops e = true) (hc : ev e c = .bool false) (v : Value) (hx : ev e b = v) (h : Wt P ops C K rest (put e dst v)) :
    Wt P ops C K (⟨dst, .pick c a b, ty, pos, af, g⟩ :: rest) e := t_val hg (fun w _ => by simp [execOp, hc, hx, asBool]) h

theorem t_not {t : TypeId} {x : Operand} {b : Bool} (hg : wants ⟨dst, .unOp .not t x, ty, pos, af, g⟩ ops e = true) (hx : ev e x = .bool b) (h : Wt P ops C K rest (put e dst (.bool (!b)))) :
    Wt P ops C K (⟨dst, .unOp .not t x, ty, pos, af, g⟩ :: rest) e := t_val hg (fun w _ => by simp [execOp, hx, Op.unary]) h
theorem t_nilCheck {x : Operand} {p : Addr} (hg : wants ⟨dst, .nilCheck x, ty, pos, af, g⟩ ops e = true) (hx : ev e x = .pointer (some p)) (h : Wt P ops C K rest (put e dst (.pointer (some p)))) :
    Wt P ops C K (⟨dst, .nilCheck x, ty, pos, af, g⟩ :: rest) e := t_val hg (fun w _ => by simp [execOp, hx]) h
theorem t_indexAddr {t el : TypeId} {x y : Operand} {b o n c s : Nat} {k : IntKind} {i : Int} (hg : wants ⟨dst, .indexAddr t x y, ty, pos, af, g⟩ ops e = true) (hu : elemT P t = some el) (hs : tsize P el = some s)
    (hx : ev e x = .slice (some ⟨b, o, none⟩) n c) (hy : ev e y = .int k i) (h0 : 0 ≤ i) (h1 : i < n)
    (h : Wt P ops C K rest (put e dst (.pointer (some ⟨b, o + i.toNat * s, none⟩)))) :
    Wt P ops C K (⟨dst, .indexAddr t x y, ty, pos, af, g⟩ :: rest) e :=
  t_val hg (fun w _ => by simp [execOp, hx, hy, Instr.indexAt, asIntOf, run_under (elemT_u hu), h0, h1, run_size hs, add_none]) h
theorem t_indexRd {t el : TypeId} {x y : Operand} {a : Option Addr} {n c s : Nat} {k : IntKind} {i : Int} {α : Type} {enc : α → List Value} {xs : List α} {w1 : World} (R : Rd w1 a s enc xs)
    (hg : wants ⟨dst, .indexAddr t x y, ty, pos, af, g⟩ ops e = true) (hu : elemT P t = some el) (hs : tsize P el = some s)
    (hx : ev e x = .slice a n c) (hy : ev e y = .int k i) (h0 : 0 ≤ i) (h1 : i < n) (hn : n = xs.length)
    (h : Wt P ops C K rest (put e dst (.pointer (some ⟨(adr a).block, (adr a).off + i.toNat * s, none⟩)))) :
    Wt P ops C K (⟨dst, .indexAddr t x y, ty, pos, af, g⟩ :: rest) e := by
  obtain ⟨b, o, rfl⟩ := R.some' (by rintro rfl; simp at hn; omega)
  exact t_indexAddr hg hu hs hx hy h0 h1 h
theorem t_indexArr {t el : TypeId} {x y : Operand} {b o n s : Nat} {k : IntKind} {i : Int} (hg : wants ⟨dst, .indexAddr t x y, ty, pos, af, g⟩ ops e = true) (hu : arrT P t = some (n, el)) (hs : tsize P el = some s)
    (hx : ev e x = .pointer (some ⟨b, o, none⟩)) (hy : ev e y = .int k i) (h0 : 0 ≤ i) (h1 : i < n)
    (h : Wt P ops C K rest (put e dst (.pointer (some ⟨b, o + i.toNat * s, none⟩)))) :
    Wt P ops C K (⟨dst, .indexAddr t x y, ty, pos, af, g⟩ :: rest) e :=
  t_val hg (fun w _ => by simp [execOp, hx, hy, Instr.indexAt, asIntOf, run_under (arrT_u hu), Instr.sureAddr, h0, h1, run_size hs, add_none]) h
theorem t_len {t : TypeId} {x : Operand} {a : Option Addr} {n c : Nat} {el : TypeId} (hg : wants ⟨dst, .call ⟨.builtin .len, #[x], #[t]⟩, ty, pos, af, g⟩ ops e = true) (hu : elemT P t = some el) (hx : ev e x = .slice a n c)
    (h : Wt P ops C K rest (put e dst (.int .i64 n))) :
    Wt P ops C K (⟨dst, .call ⟨.builtin .len, #[x], #[t]⟩, ty, pos, af, g⟩ :: rest) e :=
  t_val hg (fun w _ => by simp [execOp, resolve, invoke, builtin, hx, Builtin.len_, run_under (elemT_u hu), goInt]) h
theorem t_cap {t : TypeId} {x : Operand} {a : Option Addr} {n c : Nat} {el : TypeId} (hg : wants ⟨dst, .call ⟨.builtin .cap, #[x], #[t]⟩, ty, pos, af, g⟩ ops e = true) (hu : elemT P t = some el) (hx : ev e x = .slice a n c)
    (h : Wt P ops C K rest (put e dst (.int .i64 c))) :
    Wt P ops C K (⟨dst, .call ⟨.builtin .cap, #[x], #[t]⟩, ty, pos, af, g⟩ :: rest) e :=
  t_val hg (fun w _ => by simp [execOp, resolve, invoke, builtin, hx, Builtin.cap_, run_under (elemT_u hu), goInt]) h
theorem t_min2 {t1 t2 : TypeId} {x y : Operand} {k : IntKind} {a b : Int} (hg : wants ⟨dst, .call ⟨.builtin .min, #[x, y], #[t1, t2]⟩, ty, pos, af, g⟩ ops e = true) (hx : ev e x = .int k a) (hy : ev e y = .int k b)
    (h : Wt P ops C K rest (put e dst (.int k (min a b)))) :
    Wt P ops C K (⟨dst, .call ⟨.builtin .min, #[x, y], #[t1, t2]⟩, ty, pos, af, g⟩ :: rest) e :=
  t_val hg (fun w _ => by
    have : (if b < a then b else a) = min a b := by rw [Int.min_def]; split <;> split <;> omega
    simp [execOp, resolve, invoke, builtin, hx, hy, Builtin.min_, Builtin.min2, this]) h
theorem t_max2 {t1 t2 : TypeId} {x y : Operand} {k : IntKind} {a b : Int} (hg : wants ⟨dst, .call ⟨.builtin .max, #[x, y], #[t1, t2]⟩, ty, pos, af, g⟩ ops e = true) (hx : ev e x = .int k a) (hy : ev e y = .int k b)
    (h : Wt P ops C K rest (put e dst (.int k (max a b)))) :
    Wt P ops C K (⟨dst, .call ⟨.builtin .max, #[x, y], #[t1, t2]⟩, ty, pos, af, g⟩ :: rest) e :=
  t_val hg (fun w _ => by
    have : (if a < b then b else a) = max a b := by rw [Int.max_def]; split <;> split <;> omega
    simp [execOp, resolve, invoke, builtin, hx, hy, Builtin.max_, Builtin.max2, this]) h
theorem t_extract {x : Operand} {i : Nat} {vs : Array Value} {v : Value} (hg : wants ⟨dst, .extract x i, ty, pos, af, g⟩ ops e = true) (hx : ev e x = .tuple vs) (hv : vs[i]? = some v) (h : Wt P ops C K rest (put e dst v)) :
    Wt P ops C K (⟨dst, .extract x i, ty, pos, af, g⟩ :: rest) e :=
  t_val hg (fun w _ => by simp [execOp, hx, Instr.extract, hv]) h
theorem t_slice_lo {t el : TypeId} {x y : Operand} {s : Nat} {a : Option Addr} {n c : Nat} {k : IntKind} {i : Int} (hg : wants ⟨dst, .slice t x (some y) none none, ty, pos, af, g⟩ ops e = true)
    (hu : elemT P t = some el) (hs : tsize P el = some s) (hx : ev e x = .slice a n c) (hy : ev e y = .int k i) (h0 : 0 ≤ i) (h1 : i ≤ n)
    (h : Wt P ops C K rest (put e dst (.slice (cutA a c i.toNat s) (n - i.toNat) (c - i.toNat)))) :
    Wt P ops C K (⟨dst, .slice t x (some y) none none, ty, pos, af, g⟩ :: rest) e :=
  t_val hg (fun w _ => by simp [execOp, Instr.sliceAt, Instr.slice, Instr.sliceBounds, run_under (elemT_u hu), hx, hy, sliceB h0 h1, run_size hs, cutA]) h
theorem t_slice_hi {t el : TypeId} {x y : Operand} {s : Nat} {a : Option Addr} {n c : Nat} {k : IntKind} {j : Int} (hg : wants ⟨dst, .slice t x none (some y) none, ty, pos, af, g⟩ ops e = true)
    (hu : elemT P t = some el) (hs : tsize P el = some s) (hx : ev e x = .slice a n c) (hy : ev e y = .int k j) (h0 : 0 ≤ j) (h1 : j ≤ c)
    (h : Wt P ops C K rest (put e dst (.slice a j.toNat c))) :
    Wt P ops C K (⟨dst, .slice t x none (some y) none, ty, pos, af, g⟩ :: rest) e :=
  t_val hg (fun w _ => by
    have : ∀ a : Option Addr, (if c = 0 then a else a.map (·.add (0 * s))) = a := by
      intro a; split
      · rfl
      · cases a with
        | none => rfl
        | some p => simp [Addr.add]
    simp [execOp, Instr.sliceAt, Instr.slice, Instr.sliceBounds, run_under (elemT_u hu), hx, hy, sliceB h0 h1, run_size hs]
    simpa using this a) h
theorem t_slice_lohi {t el : TypeId} {x y z : Operand} {s : Nat} {a : Option Addr} {n c : Nat} {k k2 : IntKind} {i j : Int} (hg : wants ⟨dst, .slice t x (some y) (some z) none, ty, pos, af, g⟩ ops e = true)
    (hu : elemT P t = some el) (hs : tsize P el = some s) (hx : ev e x = .slice a n c) (hy : ev e y = .int k i) (hz : ev e z = .int k2 j) (h0 : 0 ≤ i) (h1 : i ≤ j) (h2 : j ≤ c)
    (h : Wt P ops C K rest (put e dst (.slice (cutA a c i.toNat s) (j.toNat - i.toNat) (c - i.toNat)))) :
    Wt P ops C K (⟨dst, .slice t x (some y) (some z) none, ty, pos, af, g⟩ :: rest) e :=
  t_val hg (fun w _ => by
    have h3 : i ≤ (j.toNat : Nat) := by omega
    simp [execOp, Instr.sliceAt, Instr.slice, Instr.sliceBounds, run_under (elemT_u hu), hx, hy, hz, sliceB (show 0 ≤ j from by omega) h2, sliceB h0 h3, run_size hs, cutA]) h

theorem t_neqnil {t t2 : TypeId} {x : Operand} {a : Option Addr} {n c c2 : Nat} {el : TypeId} (hg : wants ⟨dst, .binOp .neq t x (.const (.slice none 0 c2)) t2, ty, pos, af, g⟩ ops e = true) (hu : elemT P t = some el) (hx : ev e x = .slice a n c)
    (h : Wt P ops C K rest (put e dst (.bool a.isSome))) : Wt P ops C K (⟨dst, .binOp .neq t x (.const (.slice none 0 c2)) t2, ty, pos, af, g⟩ :: rest) e :=
  t_val hg (fun w _ => by
    have hq : eqGuard .neq t x (.const (.slice none 0 c2)) (.slice a n c) (.slice none 0 c2) = pure () := rfl
    have he : ev e (.const (.slice none 0 c2)) = .slice none 0 c2 := rfl
    simp only [execOp, hx, he, hq, Sem.run_bind, Sem.run_pure, Result.andThen_ok, run_neqnil hu]) h
theorem t_eqlnil {t t2 : TypeId} {x : Operand} {a : Option Addr} {n c c2 : Nat} {el : TypeId} (hg : wants ⟨dst, .binOp .eql t x (.const (.slice none 0 c2)) t2, ty, pos, af, g⟩ ops e = true) (hu : elemT P t = some el) (hx : ev e x = .slice a n c)
    (h : Wt P ops C K rest (put e dst (.bool a.isNone))) : Wt P ops C K (⟨dst, .binOp .eql t x (.const (.slice none 0 c2)) t2, ty, pos, af, g⟩ :: rest) e :=
  t_val hg (fun w _ => by
    have hq : eqGuard .eql t x (.const (.slice none 0 c2)) (.slice a n c) (.slice none 0 c2) = pure () := rfl
    have he : ev e (.const (.slice none 0 c2)) = .slice none 0 c2 := rfl
    simp only [execOp, hx, he, hq, Sem.run_bind, Sem.run_pure, Result.andThen_ok, run_eqlnil hu]) h
theorem t_fieldAddr {t : TypeId} {x : Operand} {i b o off : Nat} (hg : wants ⟨dst, .fieldAddr t x i, ty, pos, af, g⟩ ops e = true) (hf : fieldO P t i = some off) (hx : ev e x = .pointer (some ⟨b, o, none⟩))
    (h : Wt P ops C K rest (put e dst (.pointer (some ⟨b, o + off, none⟩)))) :
    Wt P ops C K (⟨dst, .fieldAddr t x i, ty, pos, af, g⟩ :: rest) e := by
  unfold fieldO at hf
  split at hf
  · rename_i fs hu
    split at hf
    · rename_i f hf1
      split at hf
      · rename_i s hs
        injection hf with hf
        subst hf
        exact t_val hg (fun w _ => by simp [execOp, hx, Instr.fieldAt, run_under hu, hf1, Instr.sureAddr, fieldPlace, run_size hs, add_none]) h
      · cases hf
    · cases hf
  · cases hf
theorem t_ldr {t t2 : TypeId} {x : Operand} {b i j n : Nat} {f : Nat → Value} (k : Nat) (v : Value) (hg : wants ⟨dst, .load t x, ty, pos, af, g⟩ ops e = true) (ha : aggB P t = some false) (hx : ev e x = .pointer (some ⟨b, i, none⟩))
    (H : ∀ w, C w → Ctx w0 S w L) (hj : L[j]? = some (b, Bl t2 ((List.range n).map f))) (hi : i = k) (hk : k < n) (hv : f k = v)
    (h : Wt P ops C K rest (put e dst v)) : Wt P ops C K (⟨dst, .load t x, ty, pos, af, g⟩ :: rest) e := by
  subst hi hv
  exact t_ldb hg ha hx H hj (range_get hk) h
end
section
variable {t t2 : TypeId} {x y : Operand} {a b n : Nat} {s d : TypeId}
theorem t_and_u8 (hg : wants ⟨dst, .binOp .and t x y t2, ty, pos, af, g⟩ ops e = true) (hx : ev e x = .int .u8 a) (hy : ev e y = .int .u8 b) (ha : a < 256) (hb : b < 256)
    (h : Wt P ops C K rest (put e dst (.int .u8 ((a &&& b : Nat) : Int)))) : Wt P ops C K (⟨dst, .binOp .and t x y t2, ty, pos, af, g⟩ :: rest) e :=
  t_val hg (fun w _ => run_bin hx hy (by show (Op.intBits .and .u8 (a : Int) (b : Int)).run P w = _; rw [bits_and rfl (by exact ha) (by exact hb)]; rfl)) h
theorem t_or_u8 (hg : wants ⟨dst, .binOp .or t x y t2, ty, pos, af, g⟩ ops e = true) (hx : ev e x = .int .u8 a) (hy : ev e y = .int .u8 b) (ha : a < 256) (hb : b < 256)
    (h : Wt P ops C K rest (put e dst (.int .u8 ((a ||| b : Nat) : Int)))) : Wt P ops C K (⟨dst, .binOp .or t x y t2, ty, pos, af, g⟩ :: rest) e :=
  t_val hg (fun w _ => run_bin hx hy (by show (Op.intBits .or .u8 (a : Int) (b : Int)).run P w = _; rw [bits_or rfl (by exact ha) (by exact hb)]; rfl)) h
theorem t_xor_u8 (hg : wants ⟨dst, .binOp .xor t x y t2, ty, pos, af, g⟩ ops e = true) (hx : ev e x = .int .u8 a) (hy : ev e y = .int .u8 b) (ha : a < 256) (hb : b < 256)
    (h : Wt P ops C K rest (put e dst (.int .u8 ((a ^^^ b : Nat) : Int)))) : Wt P ops C K (⟨dst, .binOp .xor t x y t2, ty, pos, af, g⟩ :: rest) e :=
  t_val hg (fun w _ => run_bin hx hy (by show (Op.intBits .xor .u8 (a : Int) (b : Int)).run P w = _; rw [bits_xor rfl (by exact ha) (by exact hb)]; rfl)) h
theorem t_shr_u8 (hg : wants ⟨dst, .binOp .shr t x y t2, ty, pos, af, g⟩ ops e = true) {k2 : IntKind} (hx : ev e x = .int .u8 a) (hy : ev e y = .int k2 n) (hn : n ≤ 8)
    (h : Wt P ops C K rest (put e dst (.int .u8 ((a / 2 ^ n : Nat) : Int)))) : Wt P ops C K (⟨dst, .binOp .shr t x y t2, ty, pos, af, g⟩ :: rest) e :=
  t_val hg (fun w _ => run_bin hx hy (by show (Op.shift .shr .u8 (a : Int) k2 (n : Int)).run P w = _; rw [run_shr (by exact hn)]; rfl)) h
theorem t_shl_u8 (hg : wants ⟨dst, .binOp .shl t x y t2, ty, pos, af, g⟩ ops e = true) {k2 : IntKind} (hx : ev e x = .int .u8 a) (hy : ev e y = .int k2 n) (hn : n ≤ 8)
    (h : Wt P ops C K rest (put e dst (.int .u8 ((a * 2 ^ n % 256 : Nat) : Int)))) : Wt P ops C K (⟨dst, .binOp .shl t x y t2, ty, pos, af, g⟩ :: rest) e :=
  t_val hg (fun w _ => run_bin hx hy (by show (Op.shift .shl .u8 (a : Int) k2 (n : Int)).run P w = _; rw [run_shl rfl (by exact hn)]; rfl)) h
theorem t_addw_u8 (hg : wants ⟨dst, .binOp .add t x y t2, ty, pos, af, g⟩ ops e = true) (hx : ev e x = .int .u8 a) (hy : ev e y = .int .u8 b)
    (h : Wt P ops C K rest (put e dst (.int .u8 (((a + b) % 256 : Nat) : Int)))) : Wt P ops C K (⟨dst, .binOp .add t x y t2, ty, pos, af, g⟩ :: rest) e :=
  t_val hg (fun _ _ => run_bin hx hy (run_addw (k := .u8) rfl t a b _)) h
theorem t_mulw_u8 (hg : wants ⟨dst, .binOp .mul t x y t2, ty, pos, af, g⟩ ops e = true) (hx : ev e x = .int .u8 a) (hy : ev e y = .int .u8 b)
    (h : Wt P ops C K rest (put e dst (.int .u8 (((a * b) % 256 : Nat) : Int)))) : Wt P ops C K (⟨dst, .binOp .mul t x y t2, ty, pos, af, g⟩ :: rest) e :=
  t_val hg (fun _ _ => run_bin hx hy (run_mulw (k := .u8) rfl t a b _)) h
theorem t_com_u8 (hg : wants ⟨dst, .unOp .xor t x, ty, pos, af, g⟩ ops e = true) (hx : ev e x = .int .u8 a) (ha : a < 256)
    (h : Wt P ops C K rest (put e dst (.int .u8 ((255 ^^^ a : Nat) : Int)))) : Wt P ops C K (⟨dst, .unOp .xor t x, ty, pos, af, g⟩ :: rest) e :=
  t_val hg (fun _ _ => run_comw (k := .u8) rfl hx (by exact ha)) h
theorem t_convn_u8 (hg : wants ⟨dst, .convert s d x, ty, pos, af, g⟩ ops e = true) {k1 : IntKind} {ds : TypeDesc} (hx : ev e x = .int k1 a) (hs : P.underlying s = some ds) (hd : P.underlying d = some (.int .u8))
    (h : Wt P ops C K rest (put e dst (.int .u8 ((a % 256 : Nat) : Int)))) : Wt P ops C K (⟨dst, .convert s d x, ty, pos, af, g⟩ :: rest) e :=
  t_val hg (fun _ _ => run_convn (k := .u8) rfl hx hs hd) h
theorem t_and_u16 (hg : wants ⟨dst, .binOp .and t x y t2, ty, pos, af, g⟩ ops e = true) (hx : ev e x = .int .u16 a) (hy : ev e y = .int .u16 b) (ha : a < 65536) (hb : b < 65536)
    (h : Wt P ops C K rest (put e dst (.int .u16 ((a &&& b : Nat) : Int)))) : Wt P ops C K (⟨dst, .binOp .and t x y t2, ty, pos, af, g⟩ :: rest) e :=
  t_val hg (fun w _ => run_bin hx hy (by show (Op.intBits .and .u16 (a : Int) (b : Int)).run P w = _; rw [bits_and rfl (by exact ha) (by exact hb)]; rfl)) h
theorem t_or_u16 (hg : wants ⟨dst, .binOp .or t x y t2, ty, pos, af, g⟩ ops e = true) (hx : ev e x = .int .u16 a) (hy : ev e y = .int .u16 b) (ha : a < 65536) (hb : b < 65536)
    (h : Wt P ops C K rest (put e dst (.int .u16 ((a ||| b : Nat) : Int)))) : Wt P ops C K (⟨dst, .binOp .or t x y t2, ty, pos, af, g⟩ :: rest) e :=
  t_val hg (fun w _ => run_bin hx hy (by show (Op.intBits .or .u16 (a : Int) (b : Int)).run P w = _; rw [bits_or rfl (by exact ha) (by exact hb)]; rfl)) h
theorem t_xor_u16 (hg : wants ⟨dst, .binOp .xor t x y t2, ty, pos, af, g⟩ ops e = true) (hx : ev e x = .int .u16 a) (hy : ev e y = .int .u16 b) (ha : a < 65536) (hb : b < 65536)
    (h : Wt P ops C K rest (put e dst (.int .u16 ((a ^^^ b : Nat) : Int)))) : Wt P ops C K (⟨dst, .binOp .xor t x y t2, ty, pos, af, g⟩ :: rest) e :=
  t_val hg (fun w _ => run_bin hx hy (by show (Op.intBits .xor .u16 (a : Int) (b : Int)).run P w = _; rw [bits_xor rfl (by exact ha) (by exact hb)]; rfl)) h
theorem t_shr_u16 (hg : wants ⟨dst, .binOp .shr t x y t2, ty, pos, af, g⟩ ops e = true) {k2 : IntKind} (hx : ev e x = .int .u16 a) (hy : ev e y = .int k2 n) (hn : n ≤ 16)
    (h : Wt P ops C K rest (put e dst (.int .u16 ((a / 2 ^ n : Nat) : Int)))) : Wt P ops C K (⟨dst, .binOp .shr t x y t2, ty, pos, af, g⟩ :: rest) e :=
  t_val hg (fun w _ => run_bin hx hy (by show (Op.shift .shr .u16 (a : Int) k2 (n : Int)).run P w = _; rw [run_shr (by exact hn)]; rfl)) h
theorem t_shl_u16 (hg : wants ⟨dst, .binOp .shl t x y t2, ty, pos, af, g⟩ ops e = true) {k2 : IntKind} (hx : ev e x = .int .u16 a) (hy : ev e y = .int k2 n) (hn : n ≤ 16)
    (h : Wt P ops C K rest (put e dst (.int .u16 ((a * 2 ^ n % 65536 : Nat) : Int)))) : Wt P ops C K (⟨dst, .binOp .shl t x y t2, ty, pos, af, g⟩ :: rest) e :=
  t_val hg (fun w _ => run_bin hx hy (by show (Op.shift .shl .u16 (a : Int) k2 (n : Int)).run P w = _; rw [run_shl rfl (by exact hn)]; rfl)) h
theorem t_addw_u16 (hg : wants ⟨dst, .binOp .add t x y t2, ty, pos, af, g⟩ ops e = true) (hx : ev e x = .int .u16 a) (hy : ev e y = .int .u16 b)
    (h : Wt P ops C K rest (put e dst (.int .u16 (((a + b) % 65536 : Nat) : Int)))) : Wt P ops C K (⟨dst, .binOp .add t x y t2, ty, pos, af, g⟩ :: rest) e :=
  t_val hg (fun _ _ => run_bin hx hy (run_addw (k := .u16) rfl t a b _)) h
theorem t_mulw_u16 (hg : wants ⟨dst, .binOp .mul t x y t2, ty, pos, af, g⟩ ops e = true) (hx : ev e x = .int .u16 a) (hy : ev e y = .int .u16 b)
    (h : Wt P ops C K rest (put e dst (.int .u16 (((a * b) % 65536 : Nat) : Int)))) : Wt P ops C K (⟨dst, .binOp .mul t x y t2, ty, pos, af, g⟩ :: rest) e :=
  t_val hg (fun _ _ => run_bin hx hy (run_mulw (k := .u16) rfl t a b _)) h
theorem t_com_u16 (hg : wants ⟨dst, .unOp .xor t x, ty, pos, af, g⟩ ops e = true) (hx : ev e x = .int .u16 a) (ha : a < 65536)
    (h : Wt P ops C K rest (put e dst (.int .u16 ((65535 ^^^ a : Nat) : Int)))) : Wt P ops C K (⟨dst, .unOp .xor t x, ty, pos, af, g⟩ :: rest) e :=
  t_val hg (fun _ _ => run_comw (k := .u16) rfl hx (by exact ha)) h
theorem t_convn_u16 (hg : wants ⟨dst, .convert s d x, ty, pos, af, g⟩ ops e = true) {k1 : IntKind} {ds : TypeDesc} (hx : ev e x = .int k1 a) (hs : P.underlying s = some ds) (hd : P.underlying d = some (.int .u16))
    (h : Wt P ops C K rest (put e dst (.int .u16 ((a % 65536 : Nat) : Int)))) : Wt P ops C K (⟨dst, .convert s d x, ty, pos, af, g⟩ :: rest) e :=
  t_val hg (fun _ _ => run_convn (k := .u16) rfl hx hs hd) h
theorem t_and_u32 (hg : wants ⟨dst, .binOp .and t x y t2, ty, pos, af, g⟩ ops e = true) (hx : ev e x = .int .u32 a) (hy : ev e y = .int .u32 b) (ha : a < 4294967296) (hb : b < 4294967296)
    (h : Wt P ops C K rest (put e dst (.int .u32 ((a &&& b : Nat) : Int)))) : Wt P ops C K (⟨dst, .binOp .and t x y t2, ty, pos, af, g⟩ :: rest) e :=
  t_val hg (fun w _ => run_bin hx hy (by show (Op.intBits .and .u32 (a : Int) (b : Int)).run P w = _; rw [bits_and rfl (by exact ha) (by exact hb)]; rfl)) h
theorem t_or_u32 (hg : wants ⟨dst, .binOp .or t x y t2, ty, pos, af, g⟩ ops e = true) (hx : ev e x = .int .u32 a) (hy : ev e y = .int .u32 b) (ha : a < 4294967296) (hb : b < 4294967296)
    (h : Wt P ops C K rest (put e dst (.int .u32 ((a ||| b : Nat) : Int)))) : Wt P ops C K (⟨dst, .binOp .or t x y t2, ty, pos, af, g⟩ :: rest) e :=
  t_val hg (fun w _ => run_bin hx hy (by show (Op.intBits .or .u32 (a : Int) (b : Int)).run P w = _; rw [bits_or rfl (by exact ha) (by exact hb)]; rfl)) h
theorem t_xor_u32 (hg : wants ⟨dst, .binOp .xor t x y t2, ty, pos, af, g⟩ ops e = true) (hx : ev e x = .int .u32 a) (hy : ev e y = .int .u32 b) (ha : a < 4294967296) (hb : b < 4294967296)
    (h : Wt P ops C K rest (put e dst (.int .u32 ((a ^^^ b : Nat) : Int)))) : Wt P ops C K (⟨dst, .binOp .xor t x y t2, ty, pos, af, g⟩ :: rest) e :=
  t_val hg (fun w _ => run_bin hx hy (by show (Op.intBits .xor .u32 (a : Int) (b : Int)).run P w = _; rw [bits_xor rfl (by exact ha) (by exact hb)]; rfl)) h
theorem t_shr_u32 (hg : wants ⟨dst, .binOp .shr t x y t2, ty, pos, af, g⟩ ops e = true) {k2 : IntKind} (hx : ev e x = .int .u32 a) (hy : ev e y = .int k2 n) (hn : n ≤ 32)
    (h : Wt P ops C K rest (put e dst (.int .u32 ((a / 2 ^ n : Nat) : Int)))) : Wt P ops C K (⟨dst, .binOp .shr t x y t2, ty, pos, af, g⟩ :: rest) e :=
  t_val hg (fun w _ => run_bin hx hy (by show (Op.shift .shr .u32 (a : Int) k2 (n : Int)).run P w = _; rw [run_shr (by exact hn)]; rfl)) h
theorem t_shl_u32 (hg : wants ⟨dst, .binOp .shl t x y t2, ty, pos, af, g⟩ ops e = true) {k2 : IntKind} (hx : ev e x = .int .u32 a) (hy : ev e y = .int k2 n) (hn : n ≤ 32)
    (h : Wt P ops C K rest (put e dst (.int .u32 ((a * 2 ^ n % 4294967296 : Nat) : Int)))) : Wt P ops C K (⟨dst, .binOp .shl t x y t2, ty, pos, af, g⟩ :: rest) e :=
  t_val hg (fun w _ => run_bin hx hy (by show (Op.shift .shl .u32 (a : Int) k2 (n : Int)).run P w = _; rw [run_shl rfl (by exact hn)]; rfl)) h
theorem t_addw_u32 (hg : wants ⟨dst, .binOp .add t x y t2, ty, pos, af, g⟩ ops e = true) (hx : ev e x = .int .u32 a) (hy : ev e y = .int .u32 b)
    (h : Wt P ops C K rest (put e dst (.int .u32 (((a + b) % 4294967296 : Nat) : Int)))) : Wt P ops C K (⟨dst, .binOp .add t x y t2, ty, pos, af, g⟩ :: rest) e :=
  t_val hg (fun _ _ => run_bin hx hy (run_addw (k := .u32) rfl t a b _)) h
theorem t_mulw_u32 (hg : wants ⟨dst, .binOp .mul t x y t2, ty, pos, af, g⟩ ops e = true) (hx : ev e x = .int .u32 a) (hy : ev e y = .int .u32 b)
    (h : Wt P ops C K rest (put e dst (.int .u32 (((a * b) % 4294967296 : Nat) : Int)))) : Wt P ops C K (⟨dst, .binOp .mul t x y t2, ty, pos, af, g⟩ :: rest) e :=
  t_val hg (fun _ _ => run_bin hx hy (run_mulw (k := .u32) rfl t a b _)) h
theorem t_com_u32 (hg : wants ⟨dst, .unOp .xor t x, ty, pos, af, g⟩ ops e = true) (hx : ev e x = .int .u32 a) (ha : a < 4294967296)
    (h : Wt P ops C K rest (put e dst (.int .u32 ((4294967295 ^^^ a : Nat) : Int)))) : Wt P ops C K (⟨dst, .unOp .xor t x, ty, pos, af, g⟩ :: rest) e :=
  t_val hg (fun _ _ => run_comw (k := .u32) rfl hx (by exact ha)) h
theorem t_convn_u32 (hg : wants ⟨dst, .convert s d x, ty, pos, af, g⟩ ops e = true) {k1 : IntKind} {ds : TypeDesc} (hx : ev e x = .int k1 a) (hs : P.underlying s = some ds) (hd : P.underlying d = some (.int .u32))
    (h : Wt P ops C K rest (put e dst (.int .u32 ((a % 4294967296 : Nat) : Int)))) : Wt P ops C K (⟨dst, .convert s d x, ty, pos, af, g⟩ :: rest) e :=
  t_val hg (fun _ _ => run_convn (k := .u32) rfl hx hs hd) h
theorem t_and_u64 (hg : wants ⟨dst, .binOp .and t x y t2, ty, pos, af, g⟩ ops e = true) (hx : ev e x = .int .u64 a) (hy : ev e y = .int .u64 b) (ha : a < 18446744073709551616) (hb : b < 18446744073709551616)
    (h : Wt P ops C K rest (put e dst (.int .u64 ((a &&& b : Nat) : Int)))) : Wt P ops C K (⟨dst, .binOp .and t x y t2, ty, pos, af, g⟩ :: rest) e :=
  t_val hg (fun w _ => run_bin hx hy (by show (Op.intBits .and .u64 (a : Int) (b : Int)).run P w = _; rw [bits_and rfl (by exact ha) (by exact hb)]; rfl)) h
theorem t_or_u64 (hg : wants ⟨dst, .binOp .or t x y t2, ty, pos, af, g⟩ ops e = true) (hx : ev e x = .int .u64 a) (hy : ev e y = .int .u64 b) (ha : a < 18446744073709551616) (hb : b < 18446744073709551616)
    (h : Wt P ops C K rest (put e dst (.int .u64 ((a ||| b : Nat) : Int)))) : Wt P ops C K (⟨dst, .binOp .or t x y t2, ty, pos, af, g⟩ :: rest) e :=
  t_val hg (fun w _ => run_bin hx hy (by show (Op.intBits .or .u64 (a : Int) (b : Int)).run P w = _; rw [bits_or rfl (by exact ha) (by exact hb)]; rfl)) h
theorem t_xor_u64 (hg : wants ⟨dst, .binOp .xor t x y t2, ty, pos, af, g⟩ ops e = true) (hx : ev e x = .int .u64 a) (hy : ev e y = .int .u64 b) (ha : a < 18446744073709551616) (hb : b < 18446744073709551616)
    (h : Wt P ops C K rest (put e dst (.int .u64 ((a ^^^ b : Nat) : Int)))) : Wt P ops C K (⟨dst, .binOp .xor t x y t2, ty, pos, af, g⟩ :: rest) e :=
  t_val hg (fun w _ => run_bin hx hy (by show (Op.intBits .xor .u64 (a : Int) (b : Int)).run P w = _; rw [bits_xor rfl (by exact ha) (by exact hb)]; rfl)) h
theorem t_shr_u64 (hg : wants ⟨dst, .binOp .shr t x y t2, ty, pos, af, g⟩ ops e = true) {k2 : IntKind} (hx : ev e x = .int .u64 a) (hy : ev e y = .int k2 n) (hn : n ≤ 64)
    (h : Wt P ops C K rest (put e dst (.int .u64 ((a / 2 ^ n : Nat) : Int)))) : Wt P ops C K (⟨dst, .binOp .shr t x y t2, ty, pos, af, g⟩ :: rest) e :=
  t_val hg (fun w _ => run_bin hx hy (by show (Op.shift .shr .u64 (a : Int) k2 (n : Int)).run P w = _; rw [run_shr (by exact hn)]; rfl)) h
theorem t_shl_u64 (hg : wants ⟨dst, .binOp .shl t x y t2, ty, pos, af, g⟩ ops e = true) {k2 : IntKind} (hx : ev e x = .int .u64 a) (hy : ev e y = .int k2 n) (hn : n ≤ 64)
    (h : Wt P ops C K rest (put e dst (.int .u64 ((a * 2 ^ n % 18446744073709551616 : Nat) : Int)))) : Wt P ops C K (⟨dst, .binOp .shl t x y t2, ty, pos, af, g⟩ :: rest) e :=
  t_val hg (fun w _ => run_bin hx hy (by show (Op.shift .shl .u64 (a : Int) k2 (n : Int)).run P w = _; rw [run_shl rfl (by exact hn)]; rfl)) h
theorem t_addw_u64 (hg : wants ⟨dst, .binOp .add t x y t2, ty, pos, af, g⟩ ops e = true) (hx : ev e x = .int .u64 a) (hy : ev e y = .int .u64 b)
    (h : Wt P ops C K rest (put e dst (.int .u64 (((a + b) % 18446744073709551616 : Nat) : Int)))) : Wt P ops C K (⟨dst, .binOp .add t x y t2, ty, pos, af, g⟩ :: rest) e :=
  t_val hg (fun _ _ => run_bin hx hy (run_addw (k := .u64) rfl t a b _)) h
theorem t_mulw_u64 (hg : wants ⟨dst, .binOp .mul t x y t2, ty, pos, af, g⟩ ops e = true) (hx : ev e x = .int .u64 a) (hy : ev e y = .int .u64 b)
    (h : Wt P ops C K rest (put e dst (.int .u64 (((a * b) % 18446744073709551616 : Nat) : Int)))) : Wt P ops C K (⟨dst, .binOp .mul t x y t2, ty, pos, af, g⟩ :: rest) e :=
  t_val hg (fun _ _ => run_bin hx hy (run_mulw (k := .u64) rfl t a b _)) h
theorem t_com_u64 (hg : wants ⟨dst, .unOp .xor t x, ty, pos, af, g⟩ ops e = true) (hx : ev e x = .int .u64 a) (ha : a < 18446744073709551616)
    (h : Wt P ops C K rest (put e dst (.int .u64 ((18446744073709551615 ^^^ a : Nat) : Int)))) : Wt P ops C K (⟨dst, .unOp .xor t x, ty, pos, af, g⟩ :: rest) e :=
  t_val hg (fun _ _ => run_comw (k := .u64) rfl hx (by exact ha)) h
theorem t_convn_u64 (hg : wants ⟨dst, .convert s d x, ty, pos, af, g⟩ ops e = true) {k1 : IntKind} {ds : TypeDesc} (hx : ev e x = .int k1 a) (hs : P.underlying s = some ds) (hd : P.underlying d = some (.int .u64))
    (h : Wt P ops C K rest (put e dst (.int .u64 ((a % 18446744073709551616 : Nat) : Int)))) : Wt P ops C K (⟨dst, .convert s d x, ty, pos, af, g⟩ :: rest) e :=
  t_val hg (fun _ _ => run_convn (k := .u64) rfl hx hs hd) h
end
end
end Go.GV

/- Bytes, strings, arrays behind a pointer, copy. It holds for every program. -/
namespace Go.GV
open Go

def bv (b : UInt8) : Value := .int .u8 (b.toNat : Int)
def B8 (b : UInt8) : List Value := [bv b]
def str (l : List UInt8) : Value := .string ⟨l.toArray⟩
theorem bv_one (l : List UInt8) : ∀ v ∈ l.map bv, oneCell v = true := fun v hv => by
  obtain ⟨b, _, rfl⟩ := List.mem_map.1 hv; rfl
theorem str_inj {l m : List UInt8} : ((⟨l.toArray⟩ : ByteArray).toList == (⟨m.toArray⟩ : ByteArray).toList) = decide (l = m) := by
  rw [ByteArray.toList_eq, ByteArray.toList_eq]
  rw [Bool.eq_iff_iff]; simp

section
variable {P : Program} {r : Option Nat} {ops rest : List Oper} {Q : Exit → Env → World → Prop} {e : Env} {w w0 : World} {S : List Nat} {L : List (Nat × Obj)}
  {dst : Option Tmp} {ty : TypeId} {pos : String} {af : Array Edge} {g : Option (Nat × Bool)} {C : World → Prop} {K : Env → Prop}

/-! ### Slices of an array behind a pointer -/
theorem op_sliceA {t el : TypeId} {x : Operand} {b n : Nat} (hg : wants ⟨dst, .slice t x none none none, ty, pos, af, g⟩ ops e = true) (hu : arrT P t = some (n, el)) (hs : tsize P el = some 1)
    (hx : ev e x = .pointer (some ⟨b, 0, none⟩)) (h : Wops P r ops Q rest (put e dst (.slice (some ⟨b, 0, none⟩) n n)) w) : Wops P r ops Q (⟨dst, .slice t x none none none, ty, pos, af, g⟩ :: rest) e w :=
  op_val hg rfl (by simp [execOp, Instr.sliceAt, Instr.sliceBounds, run_under (arrT_u hu), hx, Instr.sureAddr, run_size hs, Addr.add]) h
theorem op_sliceA_lo {t el : TypeId} {x y : Operand} {b n : Nat} {k : IntKind} {i : Int} (hg : wants ⟨dst, .slice t x (some y) none none, ty, pos, af, g⟩ ops e = true) (hu : arrT P t = some (n, el)) (hs : tsize P el = some 1)
    (hx : ev e x = .pointer (some ⟨b, 0, none⟩)) (hy : ev e y = .int k i) (h0 : 0 ≤ i) (h1 : i < n) (h : Wops P r ops Q rest (put e dst (.slice (some ⟨b, i.toNat, none⟩) (n - i.toNat) (n - i.toNat))) w) :
    Wops P r ops Q (⟨dst, .slice t x (some y) none none, ty, pos, af, g⟩ :: rest) e w :=
  op_val hg rfl (by
    have hne : ¬ n = i.toNat := by omega
    have h2 : i ≤ (n : Int) := by omega
    simp [execOp, Instr.sliceAt, Instr.sliceBounds, run_under (arrT_u hu), hx, hy, Instr.sureAddr, run_size hs, sliceB h0 h2, hne, add_none]) h
theorem op_sliceA_hi {t el : TypeId} {x y : Operand} {b n : Nat} {k : IntKind} {j : Int} (hg : wants ⟨dst, .slice t x none (some y) none, ty, pos, af, g⟩ ops e = true) (hu : arrT P t = some (n, el)) (hs : tsize P el = some 1)
    (hx : ev e x = .pointer (some ⟨b, 0, none⟩)) (hy : ev e y = .int k j) (h0 : 0 ≤ j) (h1 : j ≤ n) (h : Wops P r ops Q rest (put e dst (.slice (some ⟨b, 0, none⟩) j.toNat n)) w) :
    Wops P r ops Q (⟨dst, .slice t x none (some y) none, ty, pos, af, g⟩ :: rest) e w :=
  op_val hg rfl (by simp [execOp, Instr.sliceAt, Instr.sliceBounds, run_under (arrT_u hu), hx, hy, Instr.sureAddr, run_size hs, sliceB h0 h1, Addr.add]) h

/-- copy(dst, src): dst lies in a block that is known. -/
theorem op_copy {t t2 el t3 : TypeId} {x y : Operand} {b o dn dc m c2 k : Nat} {a2 : Option Addr} {l : List Value} (xs : List Value) (hg : wants ⟨dst, .call ⟨.builtin .copy, #[x, y], #[t, t2]⟩, ty, pos, af, g⟩ ops e = true)
    (hu : elemT P t = some el) (hs : tsize P el = some 1) (hx : ev e x = .slice (some ⟨b, o, none⟩) dn dc) (hy : ev e y = .slice a2 m c2) (hm : xs.length = m) (h1 : ∀ v ∈ xs, oneCell v = true)
    (hc : ∀ j v, xs[j]? = some v → ∃ p, a2 = some p ∧ w.cell? (p.add j) = some v) (H : Ctx w0 S w L) (hk : L[k]? = some (b, Bl t3 l)) (hb : o + dn ≤ l.length)
    (h : ∀ w', Ctx w0 S w' (L.set k (b, Bl t3 (over l o (xs.take dn)))) → Wops P r ops Q rest (put e dst (.int .i64 ((Nat.min m dn : Nat) : Int))) w') :
    Wops P r ops Q (⟨dst, .call ⟨.builtin .copy, #[x, y], #[t, t2]⟩, ty, pos, af, g⟩ :: rest) e w := by
  have hlen : (xs.take dn).length = Nat.min m dn := by rw [List.length_take, hm]; exact Nat.min_comm _ _
  have hfc := run_firstCells (P := P) (w := w) (s := 1) (m := Nat.min m dn) (a := a2) (c := m) (k := c2) (l := xs.take dn) (by rw [hlen, Nat.mul_one]) (fun j v hv => by
    rw [List.getElem?_take] at hv
    split at hv
    · exact hc j v hv
    · cases hv)
  have hmn : Nat.min m dn ≤ dn := Nat.min_le_right _ _
  obtain ⟨w', hr, he, hb'⟩ := run_storeCells (P := P) (o := o) (xs.take dn) l w 0 (fun v hv => h1 v (List.mem_of_mem_take hv)) (H.get hk) (by omega)
  have hst : (storeCells ⟨b, o, none⟩ (xs.take dn)).run P w = .ok () w' := hr
  refine op_val (w' := w') (v := .int .i64 ((Nat.min m dn : Nat) : Int)) hg rfl ?_ (h _ (H.turn hk _ he hb'))
  simp only [execOp, resolve, invoke, builtin, hx, hy, List.map_toArray, List.map_cons, List.map_nil]
  simp [Builtin.copy_, run_under (elemT_u hu), run_size hs, Builtin.lenOf, hfc, hst, goInt]

/-! ### Strings -/
theorem run_back {src dst' el : TypeId} {a : Option Addr} {c : Nat} {l : List UInt8} (hs : elemT P src = some el) (he : P.underlying el = some (.int .u8)) (hd : P.underlying dst' = some .string) (R : Rd w a 1 B8 l) :
    (convert src dst' (.slice a l.length c)).run P w = .ok (str l) w := by
  cases a with
  | none =>
    have h0 : l = [] := by
      cases l with
      | nil => rfl
      | cons x l => obtain ⟨b, o, h⟩ := R.some' (by simp); cases h
    subst h0
    simp [convert, run_under (elemT_u hs), run_under hd, run_under he, Conv.bytesToString, str]
    rfl
  | some p =>
    refine run_convert_bytes_back w src dst' el p c l (elemT_u hs) he hd fun j hj => ?_
    have hx : l[j]? = some l[j] := List.getElem?_eq_getElem hj
    obtain ⟨b, o, hp⟩ := R.some' (by rintro rfl; simp at hj)
    injection hp with hp
    subst hp
    have := Rd.one (f := bv) R hx
    rw [add_none]
    simpa [adr, bv] using this
theorem op_back {s d el : TypeId} {x : Operand} {a : Option Addr} {c : Nat} {l : List UInt8} (hg : wants ⟨dst, .convert s d x, ty, pos, af, g⟩ ops e = true) (hs : elemT P s = some el) (he : P.underlying el = some (.int .u8)) (hd : P.underlying d = some .string)
    (hx : ev e x = .slice a l.length c) (R : Rd w a 1 B8 l) (h : Wops P r ops Q rest (put e dst (str l)) w) : Wops P r ops Q (⟨dst, .convert s d x, ty, pos, af, g⟩ :: rest) e w :=
  op_val hg rfl (by simp [execOp, hx, run_back hs he hd R]) h
theorem q_back {s d el : TypeId} {x : Operand} {a : Option Addr} {c : Nat} {l : List UInt8} (hg : wants ⟨dst, .convert s d x, ty, pos, af, g⟩ ops e = true) (hs : elemT P s = some el) (he : P.underlying el = some (.int .u8)) (hd : P.underlying d = some .string)
    (hx : ev e x = .slice a l.length c) (R : ∀ w, C w → Rd w a 1 B8 l) (h : Wq P ops C K rest (put e dst (str l))) : Wq P ops C K (⟨dst, .convert s d x, ty, pos, af, g⟩ :: rest) e :=
  q_val hg (fun w hw => by simp [execOp, hx, run_back hs he hd (R w hw)]) h
theorem t_back {s d el : TypeId} {x : Operand} {a : Option Addr} {c : Nat} {l : List UInt8} (hg : wants ⟨dst, .convert s d x, ty, pos, af, g⟩ ops e = true) (hs : elemT P s = some el) (he : P.underlying el = some (.int .u8)) (hd : P.underlying d = some .string)
    (hx : ev e x = .slice a l.length c) (R : ∀ w, C w → Rd w a 1 B8 l) (h : Wt P ops C K rest (put e dst (str l))) : Wt P ops C K (⟨dst, .convert s d x, ty, pos, af, g⟩ :: rest) e :=
  t_valC rfl hg (fun w hw => by simp [execOp, hx, run_back hs he hd (R w hw)]) h

/-- []byte(s): a new block. -/
theorem op_bytes {s d el : TypeId} {x : Operand} {l : List UInt8} (hg : wants ⟨dst, .convert s d x, ty, pos, af, g⟩ ops e = true) (hs : P.underlying s = some .string) (hd : elemT P d = some el) (he : P.underlying el = some (.int .u8))
    (hx : ev e x = str l) (h : ∀ b c w', w.heap.size ≤ b → l.length ≤ c → Ext [] w w' → Rd w' (some ⟨b, 0, none⟩) 1 B8 l → Wops P r ops Q rest (put e dst (.slice (some ⟨b, 0, none⟩) l.length c)) w') :
    Wops P r ops Q (⟨dst, .convert s d x, ty, pos, af, g⟩ :: rest) e w := by
  have hr := run_bytes_of_string (P := P) w s d el ⟨l.toArray⟩ hs (elemT_u hd) he
  have hsz : (⟨l.toArray⟩ : ByteArray).size = l.length := by simp [ByteArray.size]
  rw [hsz] at hr
  refine op_val hg rfl (by simp only [execOp, hx, str, Sem.run_bind, hr, Result.andThen_ok]; rfl) (h w.heap.size _ _ (Nat.le_refl _) (grownCap_ge _ _ _ _) ((Ext.drew [] w).trans (Ext.alloc [] _ _)) ?_)
  refine ⟨fun _ => ⟨_, _, rfl⟩, fun i x hx j v hv hj => ?_⟩
  have hj0 : j = 0 := by omega
  subst hj0
  simp only [B8, List.getElem?_cons_zero, Option.some.injEq] at hv
  subst hv
  show (World.alloc w.drew _).cell? ⟨w.heap.size, 0 + i * 1 + 0, none⟩ = _
  rw [show w.heap.size = w.drew.heap.size from rfl, World.cell?_alloc_mark]
  have hi : i < l.length := (List.getElem?_eq_some_iff.1 hx).1
  rw [List.getElem?_eq_getElem hi] at hx
  injection hx with hx
  simp only [bytesRow, Nat.zero_add, Nat.mul_one, Nat.add_zero]
  rw [Array.getElem?_append_left (by simpa using hi)]
  simp [hi, hx, bv]
theorem op_streq {t t2 : TypeId} {x y : Operand} {l m : List UInt8} (hg : wants ⟨dst, .binOp .eql t x y t2, ty, pos, af, g⟩ ops e = true) (hx : ev e x = str l) (hy : ev e y = str m)
    (h : Wops P r ops Q rest (put e dst (.bool (decide (l = m)))) w) : Wops P r ops Q (⟨dst, .binOp .eql t x y t2, ty, pos, af, g⟩ :: rest) e w :=
  op_val hg rfl (by
    have hq : eqGuard .eql t x y (.string ⟨l.toArray⟩) (.string ⟨m.toArray⟩) = pure () := rfl
    simp only [execOp, hx, hy, hq, Sem.run_bind, Sem.run_pure, Result.andThen_ok, binOp, str, Op.stringOp, str_inj]) h
theorem op_strne {t t2 : TypeId} {x y : Operand} {l m : List UInt8} (hg : wants ⟨dst, .binOp .neq t x y t2, ty, pos, af, g⟩ ops e = true) (hx : ev e x = str l) (hy : ev e y = str m)
    (h : Wops P r ops Q rest (put e dst (.bool (!decide (l = m)))) w) : Wops P r ops Q (⟨dst, .binOp .neq t x y t2, ty, pos, af, g⟩ :: rest) e w :=
  op_val hg rfl (by
    have hq : eqGuard .neq t x y (.string ⟨l.toArray⟩) (.string ⟨m.toArray⟩) = pure () := rfl
    simp only [execOp, hx, hy, hq, Sem.run_bind, Sem.run_pure, Result.andThen_ok, binOp, str, Op.stringOp, str_inj]) h
theorem q_streq {t t2 : TypeId} {x y : Operand} {l m : List UInt8} (hg : wants ⟨dst, .binOp .eql t x y t2, ty, pos, af, g⟩ ops e = true) (hx : ev e x = str l) (hy : ev e y = str m)
    (h : Wq P ops C K rest (put e dst (.bool (decide (l = m))))) : Wq P ops C K (⟨dst, .binOp .eql t x y t2, ty, pos, af, g⟩ :: rest) e :=
  q_val hg (fun w _ => by
    have hq : eqGuard .eql t x y (.string ⟨l.toArray⟩) (.string ⟨m.toArray⟩) = pure () := rfl
    simp only [execOp, hx, hy, hq, Sem.run_bind, Sem.run_pure, Result.andThen_ok, binOp, str, Op.stringOp, str_inj]) h
theorem op_slen {t : TypeId} {x : Operand} {l : List UInt8} (hg : wants ⟨dst, .call ⟨.builtin .len, #[x], #[t]⟩, ty, pos, af, g⟩ ops e = true) (hu : P.underlying t = some .string) (hx : ev e x = str l)
    (h : Wops P r ops Q rest (put e dst (.int .i64 l.length)) w) : Wops P r ops Q (⟨dst, .call ⟨.builtin .len, #[x], #[t]⟩, ty, pos, af, g⟩ :: rest) e w :=
  op_val hg rfl (by
    have hsz : (⟨l.toArray⟩ : ByteArray).size = l.length := by simp [ByteArray.size]
    simp [execOp, resolve, invoke, builtin, hx, str, Builtin.len_, run_under hu, goInt, hsz]) h

/-! ### Maps, more -/
theorem op_insert {t k el : TypeId} {kk : IntKind} {x y z : Operand} {b j : Nat} {o : Obj} {m : List (Int × Value)} {n : Int} (v : Value) (hg : wants ⟨dst, .insert t x y z, ty, pos, af, g⟩ ops e = true)
    (ht : mapT P t = some (k, el)) (hk : P.underlying k = some (.int kk)) (hx : ev e x = .map (some b)) (hy : ev e y = .int kk n) (hv : ev e z = v) (H : Ctx w0 S w L) (hl : L[j]? = some (b, o)) (hM : MapO kk m o)
    (h : ∀ o' w', MapO kk (mset m n v) o' → Ctx w0 S w' (L.set j (b, o')) → Wops P r ops Q rest (put e dst undef) w') : Wops P r ops Q (⟨dst, .insert t x y z, ty, pos, af, g⟩ :: rest) e w := by
  obtain ⟨o', w', hr, hM', H'⟩ := run_mapUpdate (n := n) v ht hk H hl hM
  exact op_unit hg rfl (by simp [execOp, hx, hy, hv, hr]) (h o' w' hM' H')

theorem ba_get (l : List UInt8) (n : Nat) : (⟨l.toArray⟩ : ByteArray)[n]? = l[n]? := by
  by_cases h : n < l.length
  · rw [List.getElem?_eq_getElem h, getElem?_pos (⟨l.toArray⟩ : ByteArray) n (by simpa [ByteArray.size] using h)]
    rfl
  · rw [List.getElem?_eq_none (by omega), getElem?_neg (⟨l.toArray⟩ : ByteArray) n (by simpa [ByteArray.size] using h)]
theorem op_sindex {t : TypeId} {x y : Operand} {k : IntKind} {i : Int} {l : List UInt8} (b : UInt8) (hg : wants ⟨dst, .index t x y, ty, pos, af, g⟩ ops e = true) (hu : P.underlying t = some .string) (hx : ev e x = str l) (hy : ev e y = .int k i)
    (h0 : 0 ≤ i) (hb : l[i.toNat]? = some b) (h : Wops P r ops Q rest (put e dst (bv b)) w) : Wops P r ops Q (⟨dst, .index t x y, ty, pos, af, g⟩ :: rest) e w :=
  op_val hg rfl (by simp [execOp, Instr.index, hx, hy, str, asIntOf, run_under hu, h0, ba_get, hb, bv]) h
/-- clear(m) -/
theorem op_clear {t k el : TypeId} {kk : IntKind} {x : Operand} {b j : Nat} {o : Obj} {m : List (Int × Value)} (hg : wants ⟨dst, .call ⟨.builtin .clear, #[x], #[t]⟩, ty, pos, af, g⟩ ops e = true) (ht : mapT P t = some (k, el)) (hx : ev e x = .map (some b))
    (H : Ctx w0 S w L) (hl : L[j]? = some (b, o)) (hM : MapO kk m o) (h : ∀ o' w', MapO kk [] o' → Ctx w0 S w' (L.set j (b, o')) → Wops P r ops Q rest (put e dst (.tuple #[])) w') :
    Wops P r ops Q (⟨dst, .call ⟨.builtin .clear, #[x], #[t]⟩, ty, pos, af, g⟩ :: rest) e w := by
  obtain ⟨es, clock, rfl, _⟩ := hM
  have hb := H.get hl
  have hgo : (getObj b).run P w = .ok (.map es clock) w := by simp [getObj, Sem.run, hb]
  have hso : (setObj b (.map #[] clock)).run P w = .ok () (w.putObj b (.map #[] clock)) := by simp [setObj, Sem.run, hb, World.putObj]
  refine op_val (w' := w.putObj b (.map #[] clock)) (v := .tuple #[]) hg rfl ?_ (h _ _ ⟨#[], clock, rfl, rfl, by simp, by simp⟩ (H.setB hl _))
  simp [execOp, resolve, invoke, builtin, hx, Builtin.clear_, run_under (mapT_u ht), hgo, hso]

theorem run_sliceA {t el : TypeId} {b n : Nat} (hu : arrT P t = some (n, el)) (hs : tsize P el = some 1) (w : World) : (Instr.sliceAt t (.pointer (some ⟨b, 0, none⟩)) none none none).run P w = .ok (.slice (some ⟨b, 0, none⟩) n n) w := by
  simp [Instr.sliceAt, Instr.sliceBounds, run_under (arrT_u hu), Instr.sureAddr, run_size hs, Addr.add]
theorem t_sliceA {t el : TypeId} {x : Operand} {b n : Nat} (hg : wants ⟨dst, .slice t x none none none, ty, pos, af, g⟩ ops e = true) (hu : arrT P t = some (n, el)) (hs : tsize P el = some 1)
    (hx : ev e x = .pointer (some ⟨b, 0, none⟩)) (h : Wt P ops C K rest (put e dst (.slice (some ⟨b, 0, none⟩) n n))) : Wt P ops C K (⟨dst, .slice t x none none none, ty, pos, af, g⟩ :: rest) e :=
  t_val hg (fun w _ => by simp [execOp, hx, run_sliceA hu hs]) h
theorem over_mid : ∀ (A B C M : List Value), B.length = M.length → over (A ++ (B ++ C)) A.length M = A ++ (M ++ C) := by
  intro A B C M
  induction M generalizing A B with
  | nil => intro h; have : B = [] := List.eq_nil_of_length_eq_zero (by simpa using h); subst this; simp [over]
  | cons v M ih =>
    intro h
    cases B with
    | nil => simp at h
    | cons x B =>
      have := ih (A ++ [v]) B (by simpa using h)
      simp only [over]
      rw [show (A ++ (x :: B ++ C)).set A.length v = A ++ [v] ++ (B ++ C) from by simp]
      rw [show A.length + 1 = (A ++ [v]).length from by simp, this]
      simp
end
end Go.GV

/- Pointers against nil; reads of maps that any order takes. It holds for every program. -/
namespace Go.GV
open Go

section
variable {P : Program} {r : Option Nat} {ops rest : List Oper} {Q : Exit → Env → World → Prop} {e : Env} {w w0 : World} {S : List Nat} {L : List (Nat × Obj)} {C : World → Prop} {K : Env → Prop}
  {dst : Option Tmp} {ty : TypeId} {pos : String} {af : Array Edge} {g : Option (Nat × Bool)}

theorem run_peq {P : Program} {t el : TypeId} (hu : P.underlying t = some (.pointer el)) (d : Nat) (a : Option Addr) (w : World) : (Op.equalIn (d + 1) t (.pointer a) (.pointer none)).run P w = .ok a.isNone w := by
  cases a <;> simp [Op.equalIn, run_under hu]
theorem run_peql {P : Program} {t el : TypeId} (hu : P.underlying t = some (.pointer el)) (a : Option Addr) (w : World) : (binOp .eql t (.pointer a) (.pointer none)).run P w = .ok (.bool a.isNone) w := by
  simp only [binOp, Sem.run_bind, Op.equal, Op.maxDepth, run_peq hu 9999]
  cases a <;> rfl
theorem run_pneq {P : Program} {t el : TypeId} (hu : P.underlying t = some (.pointer el)) (a : Option Addr) (w : World) : (binOp .neq t (.pointer a) (.pointer none)).run P w = .ok (.bool a.isSome) w := by
  simp only [binOp, Sem.run_bind, Op.equal, Op.maxDepth, run_peq hu 9999]
  cases a <;> rfl

theorem op_eqlptr {t t2 : TypeId} {x : Operand} {a : Option Addr} {el : TypeId} (hg : wants ⟨dst, .binOp .eql t x (.const (.pointer none)) t2, ty, pos, af, g⟩ ops e = true) (hu : P.underlying t = some (.pointer el)) (hx : ev e x = .pointer a)
    (h : Wops P r ops Q rest (put e dst (.bool a.isNone)) w) : Wops P r ops Q (⟨dst, .binOp .eql t x (.const (.pointer none)) t2, ty, pos, af, g⟩ :: rest) e w :=
  op_val hg rfl (by
    have hq : eqGuard .eql t x (.const (.pointer none)) (.pointer a) (.pointer none) = pure () := rfl
    have he : ev e (.const (.pointer none)) = .pointer none := rfl
    simp only [execOp, hx, he, hq, Sem.run_bind, Sem.run_pure, Result.andThen_ok, run_peql hu]) h
theorem op_neqptr {t t2 : TypeId} {x : Operand} {a : Option Addr} {el : TypeId} (hg : wants ⟨dst, .binOp .neq t x (.const (.pointer none)) t2, ty, pos, af, g⟩ ops e = true) (hu : P.underlying t = some (.pointer el)) (hx : ev e x = .pointer a)
    (h : Wops P r ops Q rest (put e dst (.bool a.isSome)) w) : Wops P r ops Q (⟨dst, .binOp .neq t x (.const (.pointer none)) t2, ty, pos, af, g⟩ :: rest) e w :=
  op_val hg rfl (by
    have hq : eqGuard .neq t x (.const (.pointer none)) (.pointer a) (.pointer none) = pure () := rfl
    have he : ev e (.const (.pointer none)) = .pointer none := rfl
    simp only [execOp, hx, he, hq, Sem.run_bind, Sem.run_pure, Result.andThen_ok, run_pneq hu]) h

theorem run_lookup {t k el : TypeId} {kk : IntKind} {x y : Operand} {b : Nat} {o : Obj} {m : List (Int × Value)} {n : Int} {z : Value}
    (ht : mapT P t = some (k, el)) (hk : P.underlying k = some (.int kk)) (hz : (P.info? el).bind (·.zero) = some z) (hx : ev e x = .map (some b)) (hy : ev e y = .int kk n) (hb : w.heap[b]? = some o) (hM : MapO kk m o) :
    (execOp (ev e) ⟨dst, .lookup t x y false, ty, pos, af, g⟩).run P w = .ok (.value ((mget m n).getD z)) w := by
  obtain ⟨es, clock, rfl, hes, _⟩ := hM
  have hf := findNow_at kk n es.toList m 0 hes
  have hgo : (getObj b).run P w = .ok (.map es clock) w := by simp [getObj, Sem.run, hb]
  have hzr : (zeroValue el).run P w = .ok z w := by
    cases hi : P.info? el with
    | none => rw [hi] at hz; cases hz
    | some i => rw [hi] at hz; simp at hz; simp [zeroValue, typeInfo, program, Sem.run, hi, hz]
  cases hm : mget m n with
  | none => simp [execOp, Instr.lookup, run_under (mapT_u ht), hx, hy, hgo, run_checkKey hk, Instr.findKey, run_under hk, hf.1 hm, hzr]
  | some v =>
    obtain ⟨i, hi, _⟩ := hf.2 v hm
    simp [execOp, Instr.lookup, run_under (mapT_u ht), hx, hy, hgo, run_checkKey hk, Instr.findKey, run_under hk, hi]
theorem op_lookupH {t k el : TypeId} {kk : IntKind} {x y : Operand} {b : Nat} {o : Obj} {m : List (Int × Value)} {n : Int} {z : Value} (hg : wants ⟨dst, .lookup t x y false, ty, pos, af, g⟩ ops e = true)
    (ht : mapT P t = some (k, el)) (hk : P.underlying k = some (.int kk)) (hz : (P.info? el).bind (·.zero) = some z) (hx : ev e x = .map (some b)) (hy : ev e y = .int kk n) (hb : w.heap[b]? = some o) (hM : MapO kk m o)
    (h : Wops P r ops Q rest (put e dst ((mget m n).getD z)) w) : Wops P r ops Q (⟨dst, .lookup t x y false, ty, pos, af, g⟩ :: rest) e w :=
  op_val hg rfl (run_lookup ht hk hz hx hy hb hM) h
theorem t_lookup {t k el : TypeId} {kk : IntKind} {x y : Operand} {b j : Nat} {o : Obj} {m : List (Int × Value)} {n : Int} {z : Value} (hg : wants ⟨dst, .lookup t x y false, ty, pos, af, g⟩ ops e = true)
    (ht : mapT P t = some (k, el)) (hk : P.underlying k = some (.int kk)) (hz : (P.info? el).bind (·.zero) = some z) (hx : ev e x = .map (some b)) (hy : ev e y = .int kk n) (H : ∀ w, C w → Ctx w0 S w L) (hl : L[j]? = some (b, o)) (hM : MapO kk m o)
    (h : Wt P ops C K rest (put e dst ((mget m n).getD z))) : Wt P ops C K (⟨dst, .lookup t x y false, ty, pos, af, g⟩ :: rest) e :=
  t_valC rfl hg (fun w hw => run_lookup ht hk hz hx hy ((H w hw).get hl) hM) h
theorem q_lookup {t k el : TypeId} {kk : IntKind} {x y : Operand} {b j : Nat} {o : Obj} {m : List (Int × Value)} {n : Int} {z : Value} (hg : wants ⟨dst, .lookup t x y false, ty, pos, af, g⟩ ops e = true)
    (ht : mapT P t = some (k, el)) (hk : P.underlying k = some (.int kk)) (hz : (P.info? el).bind (·.zero) = some z) (hx : ev e x = .map (some b)) (hy : ev e y = .int kk n) (H : ∀ w, C w → Ctx w0 S w L) (hl : L[j]? = some (b, o)) (hM : MapO kk m o)
    (h : Wq P ops C K rest (put e dst ((mget m n).getD z))) : Wq P ops C K (⟨dst, .lookup t x y false, ty, pos, af, g⟩ :: rest) e :=
  q_val hg (fun w hw => run_lookup ht hk hz hx hy ((H w hw).get hl) hM) h
end
theorem Ctx.oldb {w0 w : World} {L : List (Nat × Obj)} {b : Nat} {o : Obj} (H : Ctx w0 [] w L) (h : w0.heap[b]? = some o) : w.heap[b]? = some o := by
  rw [H.ext.block b (heap_lt h) (by simp)]; exact h
theorem OS.rdV {w : World} {a : Option Addr} {n c : Nat} {t : TypeId} {full vs : List Value} (h : OS a n c 1 full vs) (hb : ∀ x ∈ ent a t full, w.heap[x.1]? = some x.2) : Rd w a 1 (fun v : Value => [v]) vs :=
  OS.rd1 (f := fun v => v) (by simpa using h) hb
theorem rdV_bl {w : World} {b t : Nat} {vs : List Value} (h : w.heap[b]? = some (Bl t vs)) : Rd w (some ⟨b, 0, none⟩) 1 (fun v : Value => [v]) vs :=
  Rd.of_bl (r := []) h (by rw [List.append_nil, flat1 (f := fun v => v)]; simp) (fun x _ => rfl)
end Go.GV

/- Between our maps and the kit's words for the iterators over them. It holds for every program. -/
namespace Go.GV
open Go Go.Maps Go.WideElems Go.RowKit Go.WideShapes

theorem ext_of_below {w w' : World} (h : Below w.heap.size w w') : Ext [] w w' := ⟨h.os, h.tape, h.output, h.size, fun k hk _ => h.block k hk⟩
theorem below_of_ext {w w' : World} (h : Ext [] w w') : Below w.heap.size w w' := ⟨h.os, h.tape, h.output, h.size, fun k hk => h.block k hk (by simp)⟩

def anyR : Value → Option (DataW Unit × List MemPlace) := fun _ => some (.nil, [])

theorem ownsMap_of {P : Program} {k : TypeId} (hk : P.underlying k = some (.int .i64)) {w : World} {b : Nat} {m : List (Int × Value)} {o : Obj} (hb : w.heap[b]? = some o) (hM : MapO .i64 m o) (nd : (m.map (·.1)).Nodup)
    (hsz : m.length ≤ maxLen) (hr : ∀ p ∈ m, -9223372036854775808 ≤ p.1 ∧ p.1 ≤ 9223372036854775807) :
    ∃ D0 : DataW Unit, w.ownsMap P k anyR b m.length D0 ∧ (intKeys D0).Perm (m.map (·.1)) ∧ Maps.size D0 = m.length := by
  obtain ⟨es, clock, rfl, hes, hborn, hnd⟩ := hM
  have hlen : es.toList.length = m.length := by
    have := congrArg List.length hes
    simpa using this
  have hkeys : es.toList.map (·.key) = m.map fun p => Value.int .i64 p.1 := by
    have := congrArg (List.map Prod.fst) hes
    simpa [List.map_map, Function.comp_def] using this
  have hwf : ∀ x ∈ es.toList, ∃ a : Int, x.key = .int .i64 a ∧ (Lit.int .i64 a).wf = true ∧ keyOf P k x.key = some (.int .i64 a) := fun x hx => by
    have h1 : x.key ∈ es.toList.map (·.key) := List.mem_map.2 ⟨x, hx, rfl⟩
    rw [hkeys, List.mem_map] at h1
    obtain ⟨p, hp, h2⟩ := h1
    have hw : (Lit.int .i64 p.1).wf = true := by
      have := hr p hp
      simp only [Lit.wf, Bool.and_eq_true, decide_eq_true_eq]
      exact ⟨this.1, this.2⟩
    exact ⟨p.1, h2.symm, hw, by rw [← h2]; exact keyOf_int_mk hk hw⟩
  have F : Fit P k anyR es clock := by
    refine ⟨by rw [show es.size = es.toList.length by simp, hlen]; exact hsz, ⟨hborn, hnd, ?_⟩, fun x hx => ?_⟩
    · rw [hkeys, List.nodup_iff_pairwise_ne, List.pairwise_map]
      rw [List.nodup_iff_pairwise_ne, List.pairwise_map] at nd
      exact nd.imp fun h he => h (by injection he)
    · obtain ⟨a, _, _, h3⟩ := hwf x hx
      exact ⟨(.int .i64 a, .nil), by simp [rd, h3, anyR]⟩
  have hrg : es.toList.map (rg P k anyR) = (m.map fun p => (Lit.int .i64 p.1, (DataW.nil : DataW Unit))) := by
    have h1 : es.toList.map (rg P k anyR) = (es.toList.map (·.key)).map fun v => match v with | .int _ a => (Lit.int .i64 a, (DataW.nil : DataW Unit)) | _ => (.bool false, .nil) := by
      rw [List.map_map]
      refine List.map_congr_left fun x hx => ?_
      obtain ⟨a, h1, _, h3⟩ := hwf x hx
      rw [rg_of (y := (.int .i64 a, .nil)) (by simp [rd, h3, anyR])]
      simp [h1]
    rw [h1, hkeys, List.map_map]
    rfl
  refine ⟨.map ((es.toList.map (rg P k anyR)).foldr DataW.insert []), ⟨es, clock, hb, F, by rw [show es.size = es.toList.length by simp, hlen]; exact Nat.le_refl _, rfl⟩, ?_, ?_⟩
  · show (((es.toList.map (rg P k anyR)).foldr DataW.insert []).map fun p => intOf p.1).Perm _
    refine ((sorted_perm _).map _).trans ?_
    rw [hrg, List.map_map]
    exact List.Perm.of_eq (List.map_congr_left fun p _ => rfl)
  · show ((es.toList.map (rg P k anyR)).foldr DataW.insert []).length = _
    rw [(sorted_perm _).length_eq, List.length_map, hlen]

theorem rd_of_owns {w : World} {base : Nat} {e : TypeId} {v : Value} {xs : List Int} {n : Nat} (hn : n = xs.length) (h : w.ownsRow base e 1 v n (xs.map (Value.int .i64))) :
    ∃ a c, v = .slice a xs.length c ∧ Rd w a 1 (fun x : Int => [.int .i64 x]) xs ∧ xs.length ≤ c ∧ (xs = [] ∨ base ≤ (adr a).block) := by
  subst hn
  rcases h.2 with ⟨rfl, hz⟩ | ⟨g, cap, cur, rfl, hbase, hg, hcap, _, hsz, hpre⟩
  · have : xs = [] := List.eq_nil_of_length_eq_zero hz
    subst this
    exact ⟨none, 0, rfl, Rd.nil, Nat.le_refl _, .inl rfl⟩
  · refine ⟨_, cap, rfl, ?_, hcap, .inr hbase⟩
    have hO : OS (some ⟨g, 0, none⟩) xs.length cap 1 cur.toList (xs.map (Value.int .i64)) :=
      ⟨fun p hp => (by cases hp; rfl), fun hp => (by cases hp), by simpa using hsz, hcap, hpre⟩
    exact hO.rd1 (t := e) fun x hx => by
      rw [mem_ent rfl, List.mem_singleton] at hx
      subst hx
      show w.heap[g]? = some (.cells cur.toList.toArray e (0, 0))
      rw [Array.toArray_toList]; exact hg
end Go.GV

/- Ranges over a function: a round's body, the call of yield, the statement, and how a function leaves that holds one. It holds for every program. -/
namespace Go.GV
open Go

section
variable {P : Program} {r : Option Nat} {ops rest : List Oper} {Q : Exit → Env → World → Prop} {e : Env} {w w0 : World} {S : List Nat} {L : List (Nat × Obj)}
  {dst : Option Tmp} {ty : TypeId} {pos : String} {af : Array Edge} {g : Option (Nat × Bool)} {n : Nat}

/-- A cut ahead of what comes. -/
theorem W_joinK {α : Type} {x : Code} {K : Env → World → Prop} (D : Nat) (live : α → List (Nat × Value)) (I : α → World → Prop) (hD : codeIn D x = true)
    (h : W P r n x (Qthen (fun e' w' => ∃ z, e'.ds = e.ds ∧ agree e' (live z) ∧ I z w') Q) e w)
    (hk : ∀ z j w', I z w' → K (puts (putJ e D j) (live z)) w') : W P r n x (Qthen K Q) e w := by
  refine W_mono x (Qthen_elim (S := Same D e) ?_) (W_frame x _ e w hD (Same.refl _ _) h)
  rintro e' w' hs ⟨z, hd, hl, hI⟩
  have := hk z e'.g w' hI
  rw [← hs.eq hd, env_eq hl] at this
  exact this

/-- What a round hands back, by the way in which its body is left. -/
def Qround (l : Nat) (R : Value → World → Prop) : Exit → Env → World → Prop
  | .normal, _, w => ∃ lo, w.heap[l]? = some (.loop lo) ∧ R (.bool true) (w.putObj l (.loop { lo with state := .ready, pending := none }))
  | .ret, _, w => ∃ lo, w.heap[l]? = some (.loop lo) ∧ R (.bool false) (w.putObj l (.loop { lo with state := .done, pending := some .ret }))
  | .exit id, _, w => ∃ lo, w.heap[l]? = some (.loop lo) ∧ R (.bool false) (w.putObj l (.loop { lo with state := .done, pending := some (.exit id) }))
  | .goto t, _, w => ∃ lo, w.heap[l]? = some (.loop lo) ∧ R (.bool false) (w.putObj l (.loop { lo with state := .done, pending := some (.goto t) }))
  | _, _, _ => False

/-- The left sides, then the body. -/
def Qbegin (P : Program) (l n : Nat) (body : Code) (R : Value → World → Prop) : Exit → Env → World → Prop
  | .normal, e, w => ∃ lo, w.heap[l]? = some (.loop lo) ∧ lo.state = .ready ∧ W P (some l) n body (Qround l R) e (w.putObj l (.loop { lo with state := .busy }))
  | _, _, _ => False

theorem round_of_W {l f : Nat} {tmps : Array Value} {assign body : Code} {R : Value → World → Prop} (e0 : Env) (hs : Sim n e0 { tmps := tmps, defers := [] }) (hfit : (fits n assign && fits n body) = true)
    (h : W P (some l) n assign (Qbegin P l n body R) e0 w) : RoundIn Fence.wide 0 P l f tmps assign body w fun x w' => ∃ v, x = .returned v ∧ R v w' := by
  simp only [Bool.and_eq_true] at hfit
  refine roundIn_of_wpIn trivial ?_
  have h1 := W_sound (r := some l) assign _ e0 w h hfit.1 _ hs
  refine wpIn_mono (F := Fr (some l)) h1 ?_
  rintro x a w1 ⟨e1, hs1, hq⟩
  cases x with
  | normal =>
    obtain ⟨lo, hl, hst, hb⟩ := hq
    refine ⟨_, run_beginRound hl hst, ?_⟩
    refine wpIn_mono (F := Fr (some l)) (W_sound (r := some l) body _ e1 _ hb hfit.2 _ hs1) ?_
    rintro y a2 w2 ⟨e2, _, hq2⟩
    cases y with
    | normal => obtain ⟨lo2, hl2, hR⟩ := hq2; exact ⟨_, _, run_endRound none hl2, _, rfl, hR⟩
    | ret => obtain ⟨lo2, hl2, hR⟩ := hq2; exact ⟨_, _, run_endRound (some .ret) hl2, _, rfl, hR⟩
    | exit id => obtain ⟨lo2, hl2, hR⟩ := hq2; exact ⟨_, _, run_endRound (some (.exit id)) hl2, _, rfl, hR⟩
    | goto t => obtain ⟨lo2, hl2, hR⟩ := hq2; exact ⟨_, _, run_endRound (some (.goto t)) hl2, _, rfl, hR⟩
    | panic c => exact hq2.elim
    | outgrown => exact hq2.elim
  | exit id => exact hq.elim
  | goto t => exact hq.elim
  | ret => exact hq.elim
  | panic c => exact hq.elim
  | outgrown => exact hq.elim

/-- A round with these values. -/
def YieldAt (P : Program) (l : Nat) (vs : List Value) (w : World) (R : Value → World → Prop) : Prop :=
  ∃ fn tmps assign body, (Instr.yield l vs.toArray).run P w = .ok (.round l fn tmps assign body) w ∧ RoundIn Fence.wide 0 P l fn tmps assign body w fun x w' => ∃ v, x = .returned v ∧ R v w'

theorem YieldAt.mono {l : Nat} {vs : List Value} {R R' : Value → World → Prop} (h : YieldAt P l vs w R) (hr : ∀ v w', R v w' → R' v w') : YieldAt P l vs w R' :=
  let ⟨fn, tmps, assign, body, h1, h2⟩ := h
  ⟨fn, tmps, assign, body, h1, RoundIn.mono h2 fun _ _ ⟨v, hx, hR⟩ => ⟨v, hx, hr _ _ hR⟩⟩

/-- yield(..) -/
theorem op_yield {fo : Operand} {l : Nat} {args : Array Operand} {ats : Array TypeId} {vs : List Value} {R : Value → World → Prop} (hg : wants ⟨dst, .call ⟨.value fo, args, ats⟩, ty, pos, af, g⟩ ops e = true)
    (hfo : ev e fo = .func (.yield l) #[] #[]) (hy : YieldAt P l vs w R) (ha : args.toList.map (ev e) = vs) (h : ∀ v w', R v w' → Wops P r ops Q rest (put e dst v) w') :
    Wops P r ops Q (⟨dst, .call ⟨.value fo, args, ats⟩, ty, pos, af, g⟩ :: rest) e w := by
  obtain ⟨fn, tmps, assign, body, hy, hr⟩ := hy
  have hav : args.map (ev e) = vs.toArray := by subst ha; apply Array.ext'; simp only [Array.toList_map]
  unfold Wops
  rw [if_pos hg, Oper.semAt_eq r _ _ (nodef_ne rfl)]
  have hrun : (execOp (ev e) ⟨dst, .call ⟨.value fo, args, ats⟩, ty, pos, af, g⟩).run P w = .ok (.round l fn tmps assign body) w := by
    simp [execOp, resolve, hfo, Deferred.ofValue, invoke, hav, hy]
  rw [hrun]
  exact RoundIn.mono hr fun _ _ ⟨v, hx, hR⟩ => ⟨v, hx, h _ _ hR⟩

/-- A record that is ready answers the values. -/
theorem yield_of {l : Nat} {vs : List Value} {lo : Loop} {R : Value → World → Prop} (hl : w.heap[l]? = some (.loop lo)) (hs : vs.length = lo.params.size)
    (hr : RoundIn Fence.wide 0 P l lo.fn ((lo.params.zip vs.toArray).foldl (fun tmps (t, a) => tmps.setIfInBounds t a) lo.tmps) lo.assign lo.body w fun x w' => ∃ v, x = .returned v ∧ R v w') : YieldAt P l vs w R :=
  ⟨_, _, _, _, run_yield hl (by simpa using hs), hr⟩

/-- The statement, at an outermost one. -/
theorem W_rangeFunc {f : Operand} {ps : Array Tmp} {assign body : Code} {gf : Nat} {ca : Array Value} (hf : ev e f = .func (.func gf) #[] ca) (hc : callable P gf = true)
    (h : ∀ fn tmps, tmps.size = n → (∀ i, tmps.getD i undef = e.g i) → ∀ D l w2, D = w.heap.size → l = w.heap.size + 1 → Ext [] w w2 → w2.heap[D]? = some (.deferred (some [])) →
      w2.heap[l]? = some (.loop { state := .ready, pending := none, fn, tmps, params := ps, assign, body, defers := D }) →
      Ret P gf (#[.func (.yield l) #[] #[]] ++ ca) w2 fun _ w3 => ∃ lo, w3.heap[l]? = some (.loop lo) ∧ lo.state ≠ .busy ∧
        jumped Q ⟨e.g, { target := .collected D, args := #[] } :: e.ds⟩ (w3.putObj l (.loop { lo with state := .exhausted })) lo.pending) : W P none n (.rangeFunc f ps assign body) Q e w := by
  refine ⟨_, rfl, fun fn tmps hn ht => ?_⟩
  have hx1 := Ext.alloc ([] : List Nat) w (.deferred (some []))
  have hx2 := Ext.alloc ([] : List Nat) (w.alloc (.deferred (some []))) (.loop { state := .ready, pending := none, fn, tmps, params := ps, assign, body, defers := w.heap.size })
  have hD : (w.alloc (.deferred (some []))).heap[w.heap.size]? = some (.deferred (some [])) := World.alloc_heap_new w _
  have h1 := h fn tmps hn ht w.heap.size (w.heap.size + 1) _ rfl rfl (hx1.trans hx2) (by rw [hx2.block w.heap.size (by simp) (by simp)]; exact hD)
    (by have := World.alloc_heap_new (w.alloc (.deferred (some []))) (.loop { state := .ready, pending := none, fn, tmps, params := ps, assign, body, defers := w.heap.size }); rwa [World.size_alloc] at this)
  refine ⟨gf, #[], ca, hf, ?_, ?_⟩
  · exact run_callable hc _ _
  · have hsz : (rfWorld none w).heap.size = w.heap.size + 1 := by simp [rfWorld]
    simp only [hsz]
    have harr : #[] ++ #[Value.func (.yield (w.heap.size + 1)) #[] #[]] ++ ca = #[Value.func (.yield (w.heap.size + 1)) #[] #[]] ++ ca := by simp
    rw [harr]
    exact h1

/-! ### Leaving -/
def Marks : List Deferred → World → (World → Prop) → Prop
  | [], w, K => K w
  | d :: ds, w, K => ∃ D, d.target = .collected D ∧ w.heap[D]? = some (.deferred (some [])) ∧ Marks ds (w.putObj D (.deferred none)) K

def QretM (P : Program) (fn : Func) (R : Value → World → Prop) : Exit → Env → World → Prop
  | .normal, e, w | .ret, e, w => Marks e.ds w fun w' => ∀ tmps : Array Value, (∀ i, tmps.getD i undef = e.g i) → ∃ v, (results fn tmps).run P w' = .ok v w' ∧ R v w'
  | _, _, _ => False

theorem marks_leaves {fn : Func} {R : Value → World → Prop} {tmps : Array Value} : ∀ {ds : List Deferred} {w : World}, (Marks ds w fun w' => ∃ v, (results fn tmps).run P w' = .ok v w' ∧ R v w') →
    LeavesInM Fence.wide 0 P fn tmps (fun x w' => ∃ v, x = .returned v ∧ R v w') ds .returning w
  | [], w, ⟨v, h1, h2⟩ => ⟨v, h1, v, rfl, h2⟩
  | d :: ds, w, ⟨D, h1, h2, h3⟩ => ⟨by simp, .inl ⟨D, _, h1, run_takeDeferred h2, marks_leaves h3⟩⟩
theorem Marks.mono : ∀ {ds : List Deferred} {w : World} {K K' : World → Prop}, (∀ w, K w → K' w) → Marks ds w K → Marks ds w K'
  | [], _, _, _, h, hk => h _ hk
  | _ :: _, _, _, _, h, ⟨D, h1, h2, h3⟩ => ⟨D, h1, h2, Marks.mono h h3⟩

theorem ret_of_WM {f : FuncId} {fn : Func} {c : Code} {args : Array Value} {R : Value → World → Prop} (hf : P.funcs[f]? = some fn) (hb : fn.body = some c)
    (l : List Value) (hargs : args = l.toArray) (hfit : (Nat.ble l.length fn.ntmps && fits fn.ntmps c) = true)
    (h : W P none fn.ntmps c (QretM P fn R) ⟨fun i => l.getD i undef, []⟩ w) : Ret P f args w R := by
  simp only [Bool.and_eq_true] at hfit
  refine callsIn_of_wp_marks hf hb trivial ?_
  refine wpIn_mono (W_sound (r := none) c _ _ w h hfit.2 _ ?_) ?_
  · refine ⟨rfl, ?_, fun i => ?_⟩
    · subst hargs
      have := Nat.le_of_ble_eq_true hfit.1
      simp; omega
    · subst hargs
      simp only [Array.getD_eq_getD_getElem?, List.getD_eq_getElem?_getD]
      rw [Array.getElem?_append]
      by_cases hi : i < l.length
      · simp [hi]
      · simp only [List.size_toArray, if_neg hi]
        rw [List.getElem?_eq_none (by omega)]
        rw [Array.getElem?_replicate]
        split <;> rfl
  · rintro x a' w' ⟨e', hs', hq⟩
    have hgo : ∀ w', (Marks e'.ds w' fun w' => ∀ tmps : Array Value, (∀ i, tmps.getD i undef = e'.g i) → ∃ v, (results fn tmps).run P w' = .ok v w' ∧ R v w') →
        LeavesInM Fence.wide 0 P fn a'.tmps (fun x w' => ∃ v, x = .returned v ∧ R v w') a'.defers .returning w' := fun w' hm => by
      rw [hs'.1]
      exact marks_leaves (Marks.mono (fun w hk => hk _ hs'.2.2) hm)
    cases x with
    | normal => exact hgo _ hq
    | ret => exact hgo _ hq
    | exit id => exact hq.elim
    | goto l => exact hq.elim
    | panic c => exact hq.elim
    | outgrown => exact hq.elim

theorem leaveM0 {fn : Func} {R : Value → World → Prop} (hr : fn.results = #[]) (h : Marks e.ds w (R (.tuple #[]))) : QretM P fn R .ret e w :=
  Marks.mono (fun w h tmps _ => ⟨_, by simp [results, hr], h⟩) h
theorem leaveM0n {fn : Func} {R : Value → World → Prop} (hr : fn.results = #[]) (h : Marks e.ds w (R (.tuple #[]))) : QretM P fn R .normal e w :=
  Marks.mono (fun w h tmps _ => ⟨_, by simp [results, hr], h⟩) h
theorem leaveM1 {fn : Func} {R : Value → World → Prop} {t : Tmp} {v : Value} (hr : fn.results = #[.tmp t]) (hv : e.g t = v) (h : Marks e.ds w (R v)) : QretM P fn R .ret e w :=
  Marks.mono (fun w h tmps ht => by
    have h1 := (ht t).trans hv
    rw [Array.getD_eq_getD_getElem?] at h1
    exact ⟨v, by simp [results, hr, h1], h⟩) h
end
end Go.GV

/- []byte of a constant. It holds for every program. -/
namespace Go.GV
open Go

section
variable {P : Program} {r : Option Nat} {ops rest : List Oper} {Q : Exit → Env → World → Prop} {e : Env} {w w0 : World} {S : List Nat} {L : List (Nat × Obj)}
  {dst : Option Tmp} {ty : TypeId} {pos : String} {af : Array Edge} {g : Option (Nat × Bool)}

theorem freeze_bl {b : Nat} {t : TypeId} {l : List Value} (h : w.heap[b]? = some (Bl t l)) (k : Nat) : w.freeze ⟨b, k, none⟩ 1 = w.putObj b (.cells l.toArray t (k, k + 1)) := by
  have hb := heap_lt h
  unfold World.freeze World.putObj
  rw [if_neg (by decide)]
  congr 1
  apply Array.ext_getElem?
  intro i
  rw [Array.getElem?_modify, Array.getElem?_setIfInBounds]
  by_cases hk : b = i
  · subst hk
    rw [if_pos rfl, if_pos rfl, if_pos hb, h]
    simp [Bl]
  · rw [if_neg hk, if_neg hk]
theorem cell_any {b : Nat} {t : TypeId} {l : List Value} {f : Nat × Nat} (h : w.heap[b]? = some (.cells l.toArray t f)) (i : Nat) : w.cell? ⟨b, i, none⟩ = l[i]? := by
  unfold World.cell?
  rw [h]
  simp
theorem rdB_any {b : Nat} {t : TypeId} {l : List UInt8} {f : Nat × Nat} (h : w.heap[b]? = some (.cells (l.map bv).toArray t f)) : Rd w (some ⟨b, 0, none⟩) 1 B8 l := by
  refine ⟨fun _ => ⟨b, 0, rfl⟩, fun i x hx j v hv hj => ?_⟩
  have hj0 : j = 0 := by omega
  subst hj0
  simp only [B8, List.getElem?_cons_zero, Option.some.injEq] at hv
  subst hv
  show w.cell? ⟨b, 0 + i * 1 + 0, none⟩ = _
  rw [cell_any h]
  simp [hx]
/-- The conversion behind the row of a constant. -/
theorem op_convLit {t el : TypeId} {x : Operand} {b n c j : Nat} {l : List UInt8} (hg : wants ⟨dst, .convert t t x, ty, pos, af, g⟩ ops e = true) (ht : elemT P t = some el) (he : P.underlying el = some (.int .u8))
    (hx : ev e x = .slice (some ⟨b, 0, none⟩) n c) (H : Ctx w0 S w L) (hk : L[j]? = some (b, Bl el (l.map bv)))
    (h : ∀ w', Ctx w0 S w' (L.set j (b, .cells (l.map bv).toArray el (l.length, l.length + 1))) → Rd w' (some ⟨b, 0, none⟩) 1 B8 l → Wops P r ops Q rest (put e dst (.slice (some ⟨b, 0, none⟩) n c)) w') :
    Wops P r ops Q (⟨dst, .convert t t x, ty, pos, af, g⟩ :: rest) e w := by
  have hb := H.get hk
  have H' := H.setB hk (.cells (l.map bv).toArray el (l.length, l.length + 1))
  have hsh : w.shape? b = some (el, l.length) := by rw [shape_bl hb, List.length_map]
  refine op_val (w' := w.putObj b (.cells (l.map bv).toArray el (l.length, l.length + 1))) hg rfl ?_ (h _ H' (rdB_any (setB_same hb)))
  simp [execOp, hx, convert, run_under (elemT_u ht), run_under he, markStringish, hsh, freeze_bl hb]
theorem t_streq {S : World → Prop} {K : Env → Prop} {t t2 : TypeId} {x y : Operand} {l m : List UInt8} (hg : wants ⟨dst, .binOp .eql t x y t2, ty, pos, af, g⟩ ops e = true) (hx : ev e x = str l) (hy : ev e y = str m)
    (h : Wt P ops S K rest (put e dst (.bool (decide (l = m))))) : Wt P ops S K (⟨dst, .binOp .eql t x y t2, ty, pos, af, g⟩ :: rest) e :=
  t_val hg (fun w _ => by
    have hq : eqGuard .eql t x y (.string ⟨l.toArray⟩) (.string ⟨m.toArray⟩) = pure () := rfl
    simp only [execOp, hx, hy, hq, Sem.run_bind, Sem.run_pure, Result.andThen_ok, binOp, str, Op.stringOp, str_inj]) h
theorem t_strne {S : World → Prop} {K : Env → Prop} {t t2 : TypeId} {x y : Operand} {l m : List UInt8} (hg : wants ⟨dst, .binOp .neq t x y t2, ty, pos, af, g⟩ ops e = true) (hx : ev e x = str l) (hy : ev e y = str m)
    (h : Wt P ops S K rest (put e dst (.bool (!decide (l = m))))) : Wt P ops S K (⟨dst, .binOp .neq t x y t2, ty, pos, af, g⟩ :: rest) e :=
  t_val hg (fun w _ => by
    have hq : eqGuard .neq t x y (.string ⟨l.toArray⟩) (.string ⟨m.toArray⟩) = pure () := rfl
    simp only [execOp, hx, hy, hq, Sem.run_bind, Sem.run_pure, Result.andThen_ok, binOp, str, Op.stringOp, str_inj]) h
/-- Go's remainder. -/
theorem op_remt {t t2 : TypeId} {x y : Operand} {k : IntKind} {a b : Int} (hg : wants ⟨dst, .binOp .rem t x y t2, ty, pos, af, g⟩ ops e = true) (hx : ev e x = .int k a) (hy : ev e y = .int k b) (hb : 0 < b)
    (h : Wops P r ops Q rest (put e dst (.int k (a.tmod b))) w) : Wops P r ops Q (⟨dst, .binOp .rem t x y t2, ty, pos, af, g⟩ :: rest) e w :=
  op_val hg rfl (run_bin hx hy (v := .int k (a.tmod b)) (by simp [binOp, Op.intDiv, show ¬ b = 0 from by omega])) h
end
end Go.GV

/- From the form's readings of arguments to ours, and the post of a law that answers true and turns nothing. It holds for every program. -/
namespace Go.GV
open Go Go.ChangeShapes Go.WideShapes Go.RowKit

theorem Ext.below {w w' : World} (h : Ext [] w w') : Below w.heap.size w w' := ⟨h.os, h.tape, h.output, h.size, fun k hk => h.block k hk (by simp)⟩

section
variable {H : Type} {enc : TypeId × Value → H} {P : Program} {w : World} {base : Nat} {spare : Nat → Bool} {held : Bool}

theorem trodAll_length : ∀ {ts : List TypeId} {vs : List Value} {ds : List (DataW H)} {ps : List MemPlace}, DataW.TrodAll enc P w base spare held ts vs ds ps → ds.length = ts.length
  | [], vs, ds, ps, h => by obtain ⟨_, rfl, _⟩ := trodAll_nil h; rfl
  | t :: ts, vs, ds, ps, h => by
    obtain ⟨v, vs', d, ds', p, q, rfl, rfl, rfl, _, hr⟩ := trodAll_cons h
    simp [trodAll_length hr]

theorem trodAll_stays {W W' : World} {sp' : Nat → Bool} (hl : laidOutB P = true) (hsp : ∀ b, b < W.heap.size → sp' b = true) (hb : Below W.heap.size W W') :
    ∀ {ts : List TypeId} {vs : List Value} {ds : List (DataW H)} {ps : List MemPlace}, (∀ t ∈ ts, P.readableRec t = true ∧ t < P.types.size) → (∀ x ∈ ps, x.block < W.heap.size) →
      DataW.TrodAll enc P W 0 (fun _ => true) true ts vs ds ps → DataW.TrodAll enc P W' 0 sp' true ts vs ds ps
  | [], vs, ds, ps, _, _, h => by obtain ⟨rfl, rfl, rfl⟩ := trodAll_nil h; rfl
  | t :: ts, vs, ds, ps, hr, hp, h => by
    obtain ⟨v, vs', d, ds', p, q, rfl, rfl, rfl, h0, h1⟩ := trodAll_cons h
    refine ⟨p, q, WideElems.Trod_stays hl (hr t (by simp)).1 (hr t (by simp)).2 h0 (fun x hx => hb.same (hp x (by simp [hx]))) (fun x hx => hsp _ (hp x (by simp [hx]))), ?_, rfl⟩
    exact trodAll_stays hl hsp hb (fun t ht => hr t (by simp [ht])) (fun x hx => hp x (by simp [hx])) h1

/-- The post of a law. -/
theorem law_post {f : Func} {s : ChangeSpec} {W W' : World} {args : Array Value} {ds gs : List (DataW H)} {before : List MemPlace} {tb : TypeId} (hl : laidOutB P = true) (hv : s.vars = [])
    (hr : (f.params.toList.all fun t => P.readableRec t && decide (t < P.types.size)) = true) (hres : f.resultTypes = #[tb]) (htb : P.underlying tb = some .bool)
    (hs : ∀ ds : List (DataW H), ds.length = f.params.size → s.fn H ds = { results := [.lit (.bool true)], args := ds })
    (hW : DataW.Whole enc P f.params.toList s.vars false W args.toList ds gs before) (hx : Ext [] W W') : s.post enc P f false true false false W args (.bool true) W' := by
  have hW' := hW
  obtain ⟨p, q, hA, hV, rfl, _, _⟩ := hW
  rw [hv] at hV
  obtain ⟨rfl, rfl⟩ := trodVars_none hV
  have hlen : ds.length = f.params.size := by rw [trodAll_length hA]; simp
  refine ⟨ds, [], p ++ [], [], p, [], hW', ?_, ?_, ?_, hx.below.frame _, fun h => by cases h⟩
  · rw [List.append_nil, hs ds hlen, hres]
    exact trodAll_mk1 ⟨1, by simp [DataW.trod, Value.cells, htb]⟩
  · rw [List.append_nil, hs ds hlen]
    refine trodAll_stays hl (fun b hb => by simpa using hb) hx.below (fun t ht => ?_) (fun x hxp => ?_) hA
    · have := List.all_eq_true.1 hr t ht
      simpa using this
    · exact hW'.lt x (by simp [hxp])
  · rw [hv, List.append_nil, hs ds hlen]
    rfl

theorem wf_bounds {k : IntKind} {n : Int} (h : (Lit.int k n).wf = true) : k.min ≤ n ∧ n ≤ k.max := by
  simpa [Lit.wf] using h

/-! ### Decoding -/

/-- What a piece of a struct reads as. -/
theorem trod_fld {fuel : Nat} {t : TypeId} {cs : List Value} {x : DataW H × List MemPlace} {fs : Array Field} (ht : P.underlying t = some (.struct fs)) (h : DataW.trod enc P w base spare held fuel t cs = some x) (i : Nat) (f : Field) (hf : fs[i]? = some f) :
    ∃ n y, DataW.trod enc P w base spare held n f.type ((cs.drop f.offset).take (P.cellsOf f.type)) = some y := by
  obtain ⟨xs, n, _, _, _, hl, hx⟩ := DataW.trod_struct ht h
  have h1 := hx i f hf
  have hi : i < xs.length := by rw [hl]; exact (Array.getElem?_eq_some_iff.1 hf).1
  rw [List.getElem?_eq_getElem hi] at h1
  exact ⟨n, _, h1⟩
theorem trod_slen {fuel : Nat} {t : TypeId} {cs : List Value} {x : DataW H × List MemPlace} {fs : Array Field} (ht : P.underlying t = some (.struct fs)) (h : DataW.trod enc P w base spare held fuel t cs = some x) : cs.length = P.cellsOf t := by
  obtain ⟨xs, n, _, _, hl, _, _⟩ := DataW.trod_struct ht h
  exact hl

theorem take_one {l : List Value} {o m : Nat} {v : Value} (h : (l.drop o).take m = [v]) : l[o]? = some v := by
  have h1 : ((l.drop o).take m)[0]? = some v := by rw [h]; rfl
  rw [List.getElem?_take] at h1
  split at h1
  · rw [List.getElem?_drop] at h1; simpa using h1
  · cases h1

theorem fld_int {fuel : Nat} {t u : TypeId} {cs : List Value} {x : DataW H × List MemPlace} {fs : Array Field} {k : IntKind} (ht : P.underlying t = some (.struct fs)) (h : DataW.trod enc P w base spare held fuel t cs = some x) (i o : Nat)
    (hf : (fs[i]?.map fun f => (f.type, f.offset)) = some (u, o)) (hu : P.underlying u = some (.int k)) : ∃ n, cs[o]? = some (.int k n) ∧ k.min ≤ n ∧ n ≤ k.max := by
  cases he : fs[i]? with
  | none => rw [he] at hf; cases hf
  | some f =>
    rw [he] at hf
    simp only [Option.map_some, Option.some.injEq, Prod.mk.injEq] at hf
    obtain ⟨rfl, rfl⟩ := hf
    obtain ⟨n, y, hy⟩ := trod_fld ht h i f he
    obtain ⟨m, h1, _, h2⟩ := DataW.trod_int hu hy
    exact ⟨m, take_one h1, wf_bounds h2⟩
theorem fld_bool {fuel : Nat} {t u : TypeId} {cs : List Value} {x : DataW H × List MemPlace} {fs : Array Field} (ht : P.underlying t = some (.struct fs)) (h : DataW.trod enc P w base spare held fuel t cs = some x) (i o : Nat)
    (hf : (fs[i]?.map fun f => (f.type, f.offset)) = some (u, o)) (hu : P.underlying u = some .bool) : ∃ b, cs[o]? = some (.bool b) := by
  cases he : fs[i]? with
  | none => rw [he] at hf; cases hf
  | some f =>
    rw [he] at hf
    simp only [Option.map_some, Option.some.injEq, Prod.mk.injEq] at hf
    obtain ⟨rfl, rfl⟩ := hf
    obtain ⟨n, y, hy⟩ := trod_fld ht h i f he
    obtain ⟨b, h1, _⟩ := DataW.trod_bool hu hy
    exact ⟨b, take_one h1⟩
/-- A field that is of whatever type. -/
theorem fld_any {fuel : Nat} {t u : TypeId} {cs : List Value} {x : DataW H × List MemPlace} {fs : Array Field} (ht : P.underlying t = some (.struct fs)) (h : DataW.trod enc P w base spare held fuel t cs = some x) (i o : Nat)
    (hf : (fs[i]?.map fun f => (f.type, f.offset)) = some (u, o)) : ∃ n y, DataW.trod enc P w base spare held n u ((cs.drop o).take (P.cellsOf u)) = some y := by
  cases he : fs[i]? with
  | none => rw [he] at hf; cases hf
  | some f =>
    rw [he] at hf
    simp only [Option.map_some, Option.some.injEq, Prod.mk.injEq] at hf
    obtain ⟨rfl, rfl⟩ := hf
    exact trod_fld ht h i f he

theorem cells_at {a : Addr} {n : Nat} {cs : List Value} (h : w.cells? base a n = some cs) : cs.length = n ∧ ∀ j v, cs[j]? = some v → w.cell? (a.add j) = some v := by
  unfold World.cells? at h
  split at h
  · have h1 : ∀ (l : List Nat) (cs : List Value), l.mapM (fun i => w.cell? (a.add i)) = some cs → cs.length = l.length ∧ ∀ (j i : Nat) (v : Value), l[j]? = some i → cs[j]? = some v → w.cell? (a.add i) = some v := by
      intro l
      induction l with
      | nil => intro cs h; simp at h; subst h; exact ⟨rfl, fun j i v h => by simp at h⟩
      | cons k l ih =>
        intro cs h
        rw [List.mapM_cons] at h
        obtain ⟨v, hv, h⟩ := Option.bind_eq_some_iff.1 h
        obtain ⟨cs', hcs, h⟩ := Option.bind_eq_some_iff.1 h
        simp only [Option.pure_def, Option.some.injEq] at h
        subst h
        obtain ⟨h1, h2⟩ := ih cs' hcs
        refine ⟨by simp [h1], fun j i u hi hu => ?_⟩
        cases j with
        | zero => simp at hi hu; subst hi hu; exact hv
        | succ j => exact h2 j i u (by simpa using hi) (by simpa using hu)
    obtain ⟨h2, h3⟩ := h1 _ _ h
    refine ⟨by simpa using h2, fun j v hv => h3 j j v ?_ hv⟩
    have : j < cs.length := (List.getElem?_eq_some_iff.1 hv).1
    rw [List.getElem?_range (by rw [h2] at this; simpa using this)]
  · cases h

theorem cell_none {a : Addr} {v : Value} (h : w.cell? a = some v) : a = ⟨a.block, a.off, none⟩ := by
  unfold World.cell? at h
  split at h
  · split at h
    · cases h
    · rename_i hs
      obtain ⟨b, o, s⟩ := a
      cases s with
      | none => rfl
      | some x => simp at hs
  · cases h

/-- A slice that is read: ours. -/
theorem rd_of {α : Type} {t e : TypeId} {s fuel : Nat} {v : Value} {x : DataW H × List MemPlace} {encd : α → List Value} {Good : α → Prop} (ht : P.underlying t = some (.slice e)) (hs : P.cellsOf e = s) (h0 : 0 < s)
    (dec : ∀ n cs y, DataW.trod enc P w base spare held n e cs = some y → ∃ d, cs = encd d ∧ Good d) (h : DataW.trod enc P w base spare held fuel t [v] = some x) :
    ∃ (a : Option Addr) (c : Nat) (l : List α), v = .slice a l.length c ∧ Rd w a s encd l ∧ l.length ≤ c ∧ c ≤ maxLen ∧ (∀ d ∈ l, Good d) := by
  rcases Go.Deep.open_slice ht h with ⟨hc, _⟩ | ⟨a, len, cap, m, n, D, Pl, hc, _, hl, hm, hmm, _, hx⟩
  · simp only [List.cons.injEq, and_true] at hc
    exact ⟨none, 0, [], hc, Rd.nil, Nat.le_refl _, Nat.zero_le _, by simp⟩
  · simp only [List.cons.injEq, and_true] at hc
    have hle : len ≤ m := by rw [hmm]; split <;> omega
    have hd : ∀ i, i < len → ∃ d : α, (w.cells? base (a.add (i * s)) s = some (encd d)) ∧ Good d := fun i hi => by
      obtain ⟨cs', h1, h2⟩ := hx i (by omega)
      obtain ⟨d, rfl, hg⟩ := dec _ _ _ h2
      exact ⟨d, by rw [← hs]; exact h1, hg⟩
    have hlist : ∀ k, k ≤ len → ∃ l : List α, l.length = k ∧ ∀ i d, l[i]? = some d → w.cells? base (a.add (i * s)) s = some (encd d) ∧ Good d := by
      intro k
      induction k with
      | zero => intro _; exact ⟨[], rfl, fun i d h => by simp at h⟩
      | succ k ih =>
        intro hk
        obtain ⟨l, h1, h2⟩ := ih (by omega)
        obtain ⟨d, hd1, hd2⟩ := hd k (by omega)
        refine ⟨l ++ [d], by simp [h1], fun i d' hi => ?_⟩
        rw [List.getElem?_append] at hi
        split at hi
        · exact h2 i d' hi
        · rename_i hlt
          have : i = k := by
            have := (List.getElem?_eq_some_iff.1 hi).1
            simp at this; omega
          subst this
          rw [h1, Nat.sub_self] at hi
          simp at hi; subst hi
          exact ⟨hd1, hd2⟩
    obtain ⟨l, h1, h2⟩ := hlist len (Nat.le_refl _)
    subst h1
    refine ⟨some a, cap, l, hc, ⟨fun hne => ?_, fun i d hi j u hu hj => ?_⟩, hl, hm, fun d hd => ?_⟩
    · cases l with
      | nil => exact absurd rfl hne
      | cons d l =>
        obtain ⟨h3, _⟩ := h2 0 d rfl
        obtain ⟨h4, h5⟩ := cells_at h3
        obtain ⟨u, hu⟩ := get_some (l := encd d) (i := 0) (by omega)
        have h6 := h5 0 u hu
        rw [Nat.zero_mul] at h6
        have h7 : (a.add 0).add 0 = a := by simp [Addr.add]
        rw [h7] at h6
        exact ⟨a.block, a.off, by rw [← cell_none h6]⟩
    · obtain ⟨h3, _⟩ := h2 i d hi
      have h5 := (cells_at h3).2 j u hu
      rw [Go.Deep.add_add] at h5
      have h6 := cell_none h5
      rw [h6] at h5
      have hblk : ∀ q, (a.add q).block = a.block ∧ (a.add q).off = a.off + q := by
        intro q; unfold Addr.add
        by_cases hq : q = 0 <;> simp [hq]
      rw [(hblk _).1, (hblk _).2, ← Nat.add_assoc] at h5
      obtain ⟨b, o, sp⟩ := a
      exact h5
    · obtain ⟨i, hi⟩ := List.getElem?_of_mem hd
      exact (h2 i d hi).2
theorem rd_of_T {α : Type} {t e : TypeId} {s : Nat} {v : Value} {d : DataW H} {ps : List MemPlace} {encd : α → List Value} {Good : α → Prop} (ht : P.underlying t = some (.slice e)) (hs : P.cellsOf e = s) (h0 : 0 < s)
    (dec : ∀ n cs y, DataW.trod enc P w base spare held n e cs = some y → ∃ d, cs = encd d ∧ Good d) (hv : ∃ a n c, v = .slice a n c) (h : DataW.Trod enc P w base spare held t v d ps) :
    ∃ (a : Option Addr) (c : Nat) (l : List α), v = .slice a l.length c ∧ Rd w a s encd l ∧ l.length ≤ c ∧ c ≤ maxLen ∧ (∀ d ∈ l, Good d) := by
  obtain ⟨fuel, hf⟩ := h
  obtain ⟨a, n, c, rfl⟩ := hv
  exact rd_of ht hs h0 dec (by simpa [Value.cells] using hf)
theorem dec_int {e : TypeId} {k : IntKind} (he : P.underlying e = some (.int k)) : ∀ n cs y, DataW.trod enc P w base spare held n e cs = some y → ∃ d : Int, cs = [Value.int k d] ∧ (k.min ≤ d ∧ d ≤ k.max) := by
  intro n cs y h
  obtain ⟨m, h1, _, h2⟩ := DataW.trod_int he h
  exact ⟨m, h1, wf_bounds h2⟩
end
end Go.GV

/- Arguments that are read, with their weights: slices of structs that hold slices. It holds for every program. -/
namespace Go.GV
open Go Go.ChangeShapes Go.WideShapes

section
variable {P : Program} {H : Type} {enc : TypeId × Value → H} {w : World} {base : Nat} {spare : Nat → Bool} {held : Bool}

/-- No part of it is of more bytes than any machine has. -/
def Light (P : Program) (t : TypeId) (d : DataW H) : Prop := ∀ x ∈ d.weights P t, x ≤ reachBytes

theorem weightsAll_mem {e : TypeId} {l : List (DataW H)} {d : DataW H} (h : d ∈ l) : ∀ x ∈ d.weights P e, x ∈ DataW.weightsAll P e l := by
  induction l with
  | nil => cases h
  | cons y l ih =>
    intro x hx
    unfold DataW.weightsAll
    rcases List.mem_cons.1 h with rfl | h
    · exact List.mem_append_left _ hx
    · exact List.mem_append_right _ (ih h x hx)
theorem weightsEach_mem : ∀ {ts : List TypeId} {l : List (DataW H)} {i : Nat} {t : TypeId} {d : DataW H}, ts[i]? = some t → l[i]? = some d → ∀ x ∈ d.weights P t, x ∈ DataW.weightsEach P ts l
  | [], _, i, _, _, h, _ => by simp at h
  | _ :: _, [], i, _, _, _, h => by simp at h
  | t :: ts, d :: l, 0, _, _, h1, h2 => by
    simp only [List.getElem?_cons_zero, Option.some.injEq] at h1 h2
    subst h1 h2
    intro x hx
    unfold DataW.weightsEach
    exact List.mem_append_left _ hx
  | t :: ts, d :: l, i + 1, _, _, h1, h2 => by
    intro x hx
    unfold DataW.weightsEach
    exact List.mem_append_right _ (weightsEach_mem (by simpa using h1) (by simpa using h2) x hx)
theorem Light.elems {t e : TypeId} {es sp : List (DataW H)} (ht : P.underlying t = some (.slice e)) (h : Light P t (.slice es sp)) : es.length * P.bytesOf e ≤ reachBytes ∧ ∀ d ∈ es, Light P e d := by
  unfold Light at h
  unfold DataW.weights at h
  rw [ht] at h
  refine ⟨?_, fun d hd x hx => h x (List.mem_cons_of_mem _ (List.mem_append_left _ (weightsAll_mem hd x hx)))⟩
  have h1 := h _ (List.mem_cons_self ..)
  rw [Nat.add_mul] at h1
  omega
theorem Light.part {t : TypeId} {fs : Array Field} {ps : List (DataW H)} (ht : P.underlying t = some (.struct fs)) (h : Light P t (.agg ps)) {i : Nat} {f : Field} {d : DataW H} (hf : fs[i]? = some f) (hd : ps[i]? = some d) : Light P f.type d := by
  intro x hx
  refine h x ?_
  unfold DataW.weights
  rw [ht]
  exact weightsEach_mem (ts := fs.toList.map (·.type)) (i := i) (by rw [List.getElem?_map, Array.getElem?_toList, hf]; rfl) hd x hx

theorem light_of {ts : List TypeId} {ds : List (DataW H)} (h : ((DataW.weightsEach P ts ds).all fun x => decide (x ≤ reachBytes)) = true) {i : Nat} {t : TypeId} {d : DataW H} (ht : ts[i]? = some t) (hd : ds[i]? = some d) : Light P t d :=
  fun x hx => of_decide_eq_true (List.all_eq_true.1 h x (weightsEach_mem ht hd x hx))
theorem rdw_of {α : Type} {t e : TypeId} {s fuel : Nat} {cs : List Value} {x : DataW H × List MemPlace} {encd : α → List Value} {Good : α → Prop} (ht : P.underlying t = some (.slice e)) (hs : P.cellsOf e = s) (h0 : 0 < s)
    (dec : ∀ n cs y, DataW.trod enc P w base spare held n e cs = some y → Light P e y.1 → ∃ d, cs = encd d ∧ Good d) (h : DataW.trod enc P w base spare held fuel t cs = some x) (hL : Light P t x.1) :
    ∃ (a : Option Addr) (c : Nat) (l : List α), cs = [.slice a l.length c] ∧ Rd w a s encd l ∧ l.length ≤ c ∧ c ≤ maxLen ∧ l.length * P.bytesOf e ≤ reachBytes ∧ (∀ d ∈ l, Good d) := by
  rcases Go.Deep.open_slice ht h with ⟨hc, hx⟩ | ⟨a, len, cap, m, n, D, Pl, hc, _, hl, hm, hmm, rfl, hx⟩
  · exact ⟨none, 0, [], hc, Rd.nil, Nat.le_refl _, Nat.zero_le _, by simp, by simp⟩
  · have hle : len ≤ m := by rw [hmm]; split <;> omega
    obtain ⟨hb, hLe⟩ := hL.elems ht
    rw [List.length_map, List.length_range] at hb
    have hd : ∀ i, i < len → ∃ d : α, (w.cells? base (a.add (i * s)) s = some (encd d)) ∧ Good d := fun i hi => by
      obtain ⟨cs', h1, h2⟩ := hx i (by omega)
      obtain ⟨d, rfl, hg⟩ := dec _ _ _ h2 (hLe _ (List.mem_map.2 ⟨i, List.mem_range.2 hi, rfl⟩))
      exact ⟨d, by rw [← hs]; exact h1, hg⟩
    have hlist : ∀ k, k ≤ len → ∃ l : List α, l.length = k ∧ ∀ i d, l[i]? = some d → w.cells? base (a.add (i * s)) s = some (encd d) ∧ Good d := by
      intro k
      induction k with
      | zero => intro _; exact ⟨[], rfl, fun i d h => by simp at h⟩
      | succ k ih =>
        intro hk
        obtain ⟨l, h1, h2⟩ := ih (by omega)
        obtain ⟨d, hd1, hd2⟩ := hd k (by omega)
        refine ⟨l ++ [d], by simp [h1], fun i d' hi => ?_⟩
        rw [List.getElem?_append] at hi
        split at hi
        · exact h2 i d' hi
        · rename_i hlt
          have : i = k := by
            have := (List.getElem?_eq_some_iff.1 hi).1
            simp at this; omega
          subst this
          rw [h1, Nat.sub_self] at hi
          simp at hi; subst hi
          exact ⟨hd1, hd2⟩
    obtain ⟨l, h1, h2⟩ := hlist len (Nat.le_refl _)
    subst h1
    refine ⟨some a, cap, l, hc, ⟨fun hne => ?_, fun i d hi j u hu hj => ?_⟩, hl, hm, hb, fun d hd => ?_⟩
    · cases l with
      | nil => exact absurd rfl hne
      | cons d l =>
        obtain ⟨h3, _⟩ := h2 0 d rfl
        obtain ⟨h4, h5⟩ := cells_at h3
        obtain ⟨u, hu⟩ := get_some (l := encd d) (i := 0) (by omega)
        have h6 := h5 0 u hu
        rw [Nat.zero_mul] at h6
        have h7 : (a.add 0).add 0 = a := by simp [Addr.add]
        rw [h7] at h6
        exact ⟨a.block, a.off, by rw [← cell_none h6]⟩
    · obtain ⟨h3, _⟩ := h2 i d hi
      have h5 := (cells_at h3).2 j u hu
      rw [Go.Deep.add_add] at h5
      have h6 := cell_none h5
      rw [h6] at h5
      have hblk : ∀ q, (a.add q).block = a.block ∧ (a.add q).off = a.off + q := by
        intro q; unfold Addr.add
        by_cases hq : q = 0 <;> simp [hq]
      rw [(hblk _).1, (hblk _).2, ← Nat.add_assoc] at h5
      obtain ⟨b, o, sp⟩ := a
      exact h5
    · obtain ⟨i, hi⟩ := List.getElem?_of_mem hd
      exact (h2 i d hi).2
theorem rdw_of_T {α : Type} {t e : TypeId} {s : Nat} {v : Value} {d : DataW H} {ps : List MemPlace} {encd : α → List Value} {Good : α → Prop} (ht : P.underlying t = some (.slice e)) (hs : P.cellsOf e = s) (h0 : 0 < s)
    (dec : ∀ n cs y, DataW.trod enc P w base spare held n e cs = some y → Light P e y.1 → ∃ d, cs = encd d ∧ Good d) (hv : ∃ a n c, v = .slice a n c) (h : DataW.Trod enc P w base spare held t v d ps) (hL : Light P t d) :
    ∃ (a : Option Addr) (c : Nat) (l : List α), v = .slice a l.length c ∧ Rd w a s encd l ∧ l.length ≤ c ∧ c ≤ maxLen ∧ l.length * P.bytesOf e ≤ reachBytes ∧ (∀ d ∈ l, Good d) := by
  obtain ⟨fuel, hf⟩ := h
  obtain ⟨a, n, c, rfl⟩ := hv
  obtain ⟨a', c', l, h1, h2⟩ := rdw_of ht hs h0 dec (x := (d, ps)) (by simpa [Value.cells] using hf) hL
  simp only [List.cons.injEq, and_true] at h1
  exact ⟨a', c', l, h1, h2⟩
/-- A field that is a slice. -/
theorem fld_slice {α : Type} {fuel : Nat} {t u e : TypeId} {s : Nat} {cs : List Value} {x : DataW H × List MemPlace} {fs : Array Field} {encd : α → List Value} {Good : α → Prop} (ht : P.underlying t = some (.struct fs)) (h : DataW.trod enc P w base spare held fuel t cs = some x) (hL : Light P t x.1) (i o : Nat)
    (hf : (fs[i]?.map fun f => (f.type, f.offset)) = some (u, o)) (hu : P.underlying u = some (.slice e)) (hc : P.cellsOf u = 1) (hs : P.cellsOf e = s) (h0 : 0 < s)
    (dec : ∀ n cs y, DataW.trod enc P w base spare held n e cs = some y → Light P e y.1 → ∃ d, cs = encd d ∧ Good d) :
    ∃ (a : Option Addr) (c : Nat) (l : List α), cs[o]? = some (.slice a l.length c) ∧ Rd w a s encd l ∧ l.length ≤ c ∧ c ≤ maxLen ∧ l.length * P.bytesOf e ≤ reachBytes ∧ (∀ d ∈ l, Good d) := by
  cases he : fs[i]? with
  | none => rw [he] at hf; cases hf
  | some f =>
    rw [he] at hf
    simp only [Option.map_some, Option.some.injEq, Prod.mk.injEq] at hf
    obtain ⟨rfl, rfl⟩ := hf
    obtain ⟨xs, n, _, hx, _, hl, hxs⟩ := DataW.trod_struct ht h
    have h1 := hxs i f he
    have hi : i < xs.length := by rw [hl]; exact (Array.getElem?_eq_some_iff.1 he).1
    rw [List.getElem?_eq_getElem hi] at h1
    rw [hx] at hL
    have hL' : Light P f.type xs[i].1 := hL.part ht he (by rw [List.getElem?_map, List.getElem?_eq_getElem hi]; rfl)
    obtain ⟨a, c, l, h2, h3⟩ := rdw_of hu hs h0 dec h1 hL'
    rw [hc] at h2
    exact ⟨a, c, l, take_one h2, h3⟩
end
end Go.GV

/- Closed facts on the translation of this seat: sizes, zero values, fields; printed by program. -/
namespace Go.Proofs.YtkmbcpgnafmnpaaDoor
open Go.GV
theorem ag_22 : aggB Tryd.prog 22 = some false := by kernel_rfl
theorem ag_23 : aggB Tryd.prog 23 = some false := by kernel_rfl
theorem ag_27 : aggB Tryd.prog 27 = some false := by kernel_rfl
theorem ag_3 : aggB Tryd.prog 3 = some false := by kernel_rfl
theorem ag_4 : aggB Tryd.prog 4 = some false := by kernel_rfl
theorem ag_5 : aggB Tryd.prog 5 = some false := by kernel_rfl
theorem ag_58 : aggB Tryd.prog 58 = some false := by kernel_rfl
theorem ag_84 : aggB Tryd.prog 84 = some false := by kernel_rfl
theorem ag_9 : aggB Tryd.prog 9 = some false := by kernel_rfl
theorem ag_92 : aggB Tryd.prog 92 = some true := by kernel_rfl
theorem ag_94 : aggB Tryd.prog 94 = some false := by kernel_rfl
theorem ag_97 : aggB Tryd.prog 97 = some false := by kernel_rfl
theorem ag_99 : aggB Tryd.prog 99 = some true := by kernel_rfl
theorem ar_112 : arrT Tryd.prog 112 = some (512, 5) := by kernel_rfl
theorem by_23 : tbytes Tryd.prog 23 = some 24 := by kernel_rfl
theorem by_5 : tbytes Tryd.prog 5 = some 1 := by kernel_rfl
theorem by_9 : tbytes Tryd.prog 9 = some 16 := by kernel_rfl
theorem by_99 : tbytes Tryd.prog 99 = some 40 := by kernel_rfl
theorem ca_102 : callable Tryd.prog 102 = true := by kernel_rfl
theorem ca_27 : callable Tryd.prog 27 = true := by kernel_rfl
theorem ca_48 : callable Tryd.prog 48 = true := by kernel_rfl
theorem ca_50 : callable Tryd.prog 50 = true := by kernel_rfl
theorem ca_51 : callable Tryd.prog 51 = true := by kernel_rfl
theorem ca_52 : callable Tryd.prog 52 = true := by kernel_rfl
theorem ca_53 : callable Tryd.prog 53 = true := by kernel_rfl
theorem ca_56 : callable Tryd.prog 56 = true := by kernel_rfl
theorem ca_57 : callable Tryd.prog 57 = true := by kernel_rfl
theorem ca_58 : callable Tryd.prog 58 = true := by kernel_rfl
theorem ca_60 : callable Tryd.prog 60 = true := by kernel_rfl
theorem ca_61 : callable Tryd.prog 61 = true := by kernel_rfl
theorem ca_62 : callable Tryd.prog 62 = true := by kernel_rfl
theorem ca_63 : callable Tryd.prog 63 = true := by kernel_rfl
theorem ca_70 : callable Tryd.prog 70 = true := by kernel_rfl
theorem ca_71 : callable Tryd.prog 71 = true := by kernel_rfl
theorem ca_72 : callable Tryd.prog 72 = true := by kernel_rfl
theorem ca_73 : callable Tryd.prog 73 = true := by kernel_rfl
theorem ca_74 : callable Tryd.prog 74 = true := by kernel_rfl
theorem ca_75 : callable Tryd.prog 75 = true := by kernel_rfl
theorem ca_76 : callable Tryd.prog 76 = true := by kernel_rfl
theorem ca_78 : callable Tryd.prog 78 = true := by kernel_rfl
theorem ca_79 : callable Tryd.prog 79 = true := by kernel_rfl
theorem ca_80 : callable Tryd.prog 80 = true := by kernel_rfl
theorem ca_88 : callable Tryd.prog 88 = true := by kernel_rfl
theorem ca_89 : callable Tryd.prog 89 = true := by kernel_rfl
theorem ca_90 : callable Tryd.prog 90 = true := by kernel_rfl
theorem ca_91 : callable Tryd.prog 91 = true := by kernel_rfl
theorem ca_92 : callable Tryd.prog 92 = true := by kernel_rfl
theorem ca_96 : callable Tryd.prog 96 = true := by kernel_rfl
theorem ca_98 : callable Tryd.prog 98 = true := by kernel_rfl
theorem el_23 : elemT Tryd.prog 23 = some 5 := by kernel_rfl
theorem el_45 : elemT Tryd.prog 45 = some 3 := by kernel_rfl
theorem el_58 : elemT Tryd.prog 58 = some 23 := by kernel_rfl
theorem el_94 : elemT Tryd.prog 94 = some 99 := by kernel_rfl
theorem el_97 : elemT Tryd.prog 97 = some 9 := by kernel_rfl
theorem fo_86_0 : fieldO Tryd.prog 86 0 = some 0 := by kernel_rfl
theorem fo_86_1 : fieldO Tryd.prog 86 1 = some 1 := by kernel_rfl
theorem fo_86_2 : fieldO Tryd.prog 86 2 = some 2 := by kernel_rfl
theorem fo_86_3 : fieldO Tryd.prog 86 3 = some 3 := by kernel_rfl
theorem fo_92_0 : fieldO Tryd.prog 92 0 = some 0 := by kernel_rfl
theorem fo_96_0 : fieldO Tryd.prog 96 0 = some 0 := by kernel_rfl
theorem fo_96_1 : fieldO Tryd.prog 96 1 = some 1 := by kernel_rfl
theorem fo_96_2 : fieldO Tryd.prog 96 2 = some 2 := by kernel_rfl
theorem fo_99_0 : fieldO Tryd.prog 99 0 = some 0 := by kernel_rfl
theorem fo_99_1 : fieldO Tryd.prog 99 1 = some 1 := by kernel_rfl
theorem mixed : Tryd.prog.follows .mixedOrders = true := by kernel_rfl
theorem mt_130 : mapT Tryd.prog 130 = some (3, 3) := by kernel_rfl
theorem mt_84 : mapT Tryd.prog 84 = some (3, 58) := by kernel_rfl
theorem pl_86 : placesB Tryd.prog 86 = some [(0, 1), (1, 1), (2, 1), (3, 1)] := by kernel_rfl
theorem pl_92 : placesB Tryd.prog 92 = some [(0, 1), (1, 1)] := by kernel_rfl
theorem pl_96 : placesB Tryd.prog 96 = some [(0, 1), (1, 1), (2, 1)] := by kernel_rfl
theorem pl_99 : placesB Tryd.prog 99 = some [(0, 1), (1, 1)] := by kernel_rfl
theorem sz_23 : tsize Tryd.prog 23 = some 1 := by kernel_rfl
theorem sz_3 : tsize Tryd.prog 3 = some 1 := by kernel_rfl
theorem sz_4 : tsize Tryd.prog 4 = some 1 := by kernel_rfl
theorem sz_5 : tsize Tryd.prog 5 = some 1 := by kernel_rfl
theorem sz_9 : tsize Tryd.prog 9 = some 1 := by kernel_rfl
theorem sz_92 : tsize Tryd.prog 92 = some 2 := by kernel_rfl
theorem sz_94 : tsize Tryd.prog 94 = some 1 := by kernel_rfl
theorem sz_97 : tsize Tryd.prog 97 = some 1 := by kernel_rfl
theorem sz_99 : tsize Tryd.prog 99 = some 2 := by kernel_rfl
theorem un_22 : Tryd.prog.underlying 22 = some (.int .u64) := by kernel_rfl
theorem un_25 : Tryd.prog.underlying 25 = some (.int .u32) := by kernel_rfl
theorem un_27 : Tryd.prog.underlying 27 = some (.pointer 86) := by kernel_rfl
theorem un_3 : Tryd.prog.underlying 3 = some (.int .i64) := by kernel_rfl
theorem un_34 : Tryd.prog.underlying 34 = some (.int .u64) := by kernel_rfl
theorem un_5 : Tryd.prog.underlying 5 = some (.int .u8) := by kernel_rfl
theorem un_9 : Tryd.prog.underlying 9 = some (.string) := by kernel_rfl
theorem zc_112 : zcells Tryd.prog 112 = some (List.replicate 512 (.int .u8 0 : Value)) := by kernel_rfl
theorem zc_23 : zcells Tryd.prog 23 = some ([.slice none 0 0]) := by kernel_rfl
theorem zc_5 : zcells Tryd.prog 5 = some ([.int .u8 0]) := by kernel_rfl
theorem zc_86 : zcells Tryd.prog 86 = some ([.slice none 0 0, .map none, .int .i64 0, .bool false]) := by kernel_rfl
theorem zc_9 : zcells Tryd.prog 9 = some ([.string ByteArray.empty]) := by kernel_rfl
theorem zc_92 : zcells Tryd.prog 92 = some ([.int .u64 0, .slice none 0 0]) := by kernel_rfl
theorem zc_96 : zcells Tryd.prog 96 = some ([.slice none 0 0, .int .i64 0, .bool false]) := by kernel_rfl
theorem zc_99 : zcells Tryd.prog 99 = some ([.string ByteArray.empty, .slice none 0 0]) := by kernel_rfl
theorem zv_3 : (Tryd.prog.info? 3).bind (·.zero) = some (.int .i64 0) := by kernel_rfl
theorem zv_58 : (Tryd.prog.info? 58).bind (·.zero) = some (.slice none 0 0) := by kernel_rfl
end Go.Proofs.YtkmbcpgnafmnpaaDoor
