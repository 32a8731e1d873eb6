/- The words of 64 bits as a walk meets them: 'u x' is the number in a slot for the word x; each operation on such numbers is the word's own. Plain: no program in sight. -/
import Derived.WalkKit
import Derived.WalkSpells
import Derived.WalkLawsBesides
import Derived.Laws.Bits64
namespace Go.Proofs.Ytandenkoejbloaa
open Go.RowKit

abbrev W := BitVec 64
/-- The number that a slot of kind u64 holds for the word x. -/
def u (x : W) : Int := (x.toNat : Int)

theorem u_nonneg (x : W) : 0 ≤ u x := Int.natCast_nonneg _
theorem u_lt (x : W) : u x < 18446744073709551616 := by unfold u; have := x.isLt; omega
theorem u_inj {x y : W} (h : u x = u y) : x = y := by
  unfold u at h; exact BitVec.eq_of_toNat_eq (by omega)
theorem u_eq {x y : W} : u x = u y ↔ x = y := ⟨u_inj, fun h => h ▸ rfl⟩
theorem u_beq (x y : W) : (u x == u y) = (x == y) := by
  rw [Bool.eq_iff_iff]; simp [u_eq]
theorem u_ofInt (n : Int) : u (BitVec.ofInt 64 n) = IntKind.u64.wrap n := by
  unfold u; rw [BitVec.toNat_ofInt, IntKind.wrap_u64]; omega
theorem ofInt_u (x : W) : BitVec.ofInt 64 (u x) = x := by
  unfold u; rw [BitVec.ofInt_natCast, BitVec.ofNat_toNat, BitVec.setWidth_eq]
theorem u_wrap (x : W) : IntKind.u64.wrap (u x) = u x := by rw [← u_ofInt, ofInt_u]
theorem u_add (x y : W) : IntKind.u64.wrap (u x + u y) = u (x + y) := by
  rw [← u_ofInt, BitVec.ofInt_add, ofInt_u, ofInt_u]
theorem u_bits_xor (x y : W) : bits .xor .u64 (u x) (u y) = u (x ^^^ y) := by
  show IntKind.u64.wrap ((BitVec.ofInt 64 (u x) ^^^ BitVec.ofInt 64 (u y)).toNat : Int) = _
  rw [ofInt_u, ofInt_u]; exact u_wrap _
theorem u_bits_or (x y : W) : bits .or .u64 (u x) (u y) = u (x ||| y) := by
  show IntKind.u64.wrap ((BitVec.ofInt 64 (u x) ||| BitVec.ofInt 64 (u y)).toNat : Int) = _
  rw [ofInt_u, ofInt_u]; exact u_wrap _
theorem u_bits_and (x y : W) : bits .and .u64 (u x) (u y) = u (x &&& y) := by
  show IntKind.u64.wrap ((BitVec.ofInt 64 (u x) &&& BitVec.ofInt 64 (u y)).toNat : Int) = _
  rw [ofInt_u, ofInt_u]; exact u_wrap _
theorem u_shl (x : W) (n : Nat) : IntKind.u64.wrap (u x * 2 ^ n) = u (x <<< n) := by
  have e : ((2 ^ 64 : Nat) : Int) = 18446744073709551616 := by decide
  rw [IntKind.wrap_u64, ← e]; unfold u; rw [BitVec.toNat_shiftLeft, Nat.shiftLeft_eq, Int.natCast_emod, Int.natCast_mul, Int.natCast_pow]; rfl
theorem u_shr (x : W) (n : Nat) : u x / 2 ^ n = u (x >>> n) := by
  unfold u; rw [BitVec.toNat_ushiftRight, Nat.shiftRight_eq_div_pow, Int.natCast_ediv, Int.natCast_pow]; rfl

theorem shift_shl_u (x : W) (yk : IntKind) (y : Int) (h : 0 ≤ y) (h' : y ≤ 64) : Op.shift .shl .u64 (u x) yk y = pure (.int .u64 (u (x <<< y.toNat))) := by
  rw [shift_shl_u64 yk (u x) y h h', u_shl]
theorem shift_shr_u (x : W) (yk : IntKind) (y : Int) (h : 0 ≤ y) (h' : y ≤ 64) : Op.shift .shr .u64 (u x) yk y = pure (.int .u64 (u (x >>> y.toNat))) := by
  rw [shift_shr_u64 yk (u x) y h h', u_shr]

/-- A word turned to the left. -/
def rotl (x : W) (k : Nat) : W := x <<< k ||| x >>> (64 - k)

/-- The round: 1.1. -/
def round (w : W × W × W × W) : W × W × W × W :=
  let (a, b, c, d) := w
  let a := a + b
  let b := rotl b 13 ^^^ a
  let a := rotl a 32
  let c := c + d
  let d := rotl d 16 ^^^ c
  let a := a + d
  let d := rotl d 21 ^^^ a
  let c := c + b
  let b := rotl b 17 ^^^ c
  let c := rotl c 32
  (a, b, c, d)
theorem u_shl8 (x : W) : IntKind.u64.wrap (u x * 256) = u (x <<< 8) := u_shl x 8
theorem u_shr8 (x : W) : u x / 256 = u (x >>> 8) := u_shr x 8

/-- The number that a slot of kind u8 holds for the byte b. -/
def v8 (b : UInt8) : Int := (b.toNat : Int)
theorem v8_nonneg (b : UInt8) : 0 ≤ v8 b := Int.natCast_nonneg _
theorem v8_lt (b : UInt8) : v8 b < 256 := by unfold v8; have := b.toNat_lt; omega
theorem v8_inj {a b : UInt8} (h : v8 a = v8 b) : a = b := by unfold v8 at h; exact UInt8.toNat_inj.1 (by omega)
theorem v8_eq {a b : UInt8} : v8 a = v8 b ↔ a = b := ⟨v8_inj, fun h => h ▸ rfl⟩
/-- A byte as a word; a word's lowest byte. -/
def zx (b : UInt8) : W := b.toBitVec.setWidth 64
def lo (x : W) : UInt8 := UInt8.ofBitVec (x.setWidth 8)
theorem u_zx (b : UInt8) : IntKind.u64.wrap (v8 b) = u (zx b) := by
  rw [← u_ofInt]; unfold v8; rw [BitVec.ofInt_natCast]; congr 1
  unfold zx; apply BitVec.eq_of_toNat_eq; simp
theorem fold_v8 (b : UInt8) : (b.toNat : Int) = v8 b := rfl
theorem u_lo (x : W) : IntKind.u8.wrap (u x) = v8 (lo x) := by
  unfold u v8 lo IntKind.wrap
  simp [IntKind.bits, IntKind.signed]
theorem v8_wrap (b : UInt8) : IntKind.u8.wrap (v8 b) = v8 b := by
  have h0 := v8_nonneg b
  have h1 := v8_lt b
  unfold IntKind.wrap; simp [IntKind.bits, IntKind.signed]; omega
theorem v8_ofNat (n : Nat) : IntKind.u8.wrap (n : Int) = v8 (UInt8.ofNat n) := by
  unfold v8 IntKind.wrap; simp [IntKind.bits, IntKind.signed]
/-- A byte in a cell. -/
def bv (b : UInt8) : Value := .int .u8 (v8 b)
theorem bv_one (b : UInt8) : (bv b).oneCell' = true := rfl
theorem bvs_one (l : List UInt8) : ∀ x ∈ l.map bv, x.oneCell' = true := fun x hx => by
  obtain ⟨b, _, rfl⟩ := List.mem_map.1 hx; rfl
theorem bv_inj {a b : UInt8} (h : bv a = bv b) : a = b := by
  unfold bv at h; injection h with _ h; exact v8_inj h
theorem bvs_inj : ∀ {l m : List UInt8}, l.map bv = m.map bv → l = m
  | [], [], _ => rfl
  | [], _ :: _, h => by cases h
  | _ :: _, [], h => by cases h
  | a :: l, b :: m, h => by
    simp only [List.map_cons, List.cons.injEq] at h
    rw [bv_inj h.1, bvs_inj h.2]
attribute [go_sem] fold_v8 u_shl8 u_shr8 u_zx u_lo v8_wrap
attribute [go_sem] u_add u_bits_xor u_bits_or u_bits_and u_wrap u_shl u_shr

theorem ret_int {k : IntKind} {a b : Int} (h : a = b) : Ending.returned (.int k a) = .returned (.int k b) := by rw [h]
end Go.Proofs.Ytandenkoejbloaa
