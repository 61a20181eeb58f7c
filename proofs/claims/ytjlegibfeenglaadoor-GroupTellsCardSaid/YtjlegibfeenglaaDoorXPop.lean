/-
  How many are in a set: the parallel sums of math/bits.OnesCount64, byte by byte.
-/
import Derived.Test.YtjlegibfeenglaaDoorXEv
import Derived.Laws.Bits128
namespace Go.Proofs.YtjlegibfeenglaaDoor
open Go Go.RowKit Go.Proofs.YtjlegibfeenglaaDoor.XB Go.Proofs.YtjlegibfeenglaaDoor.XFuel Go.Proofs.YtjlegibfeenglaaDoorW.PrintWords

set_option linter.unusedVariables false
set_option linter.unusedSimpArgs false
theorem and_byte (a b : Nat) : a &&& b = 256 * (a / 256 &&& b / 256) + (a % 256 &&& b % 256) := by
  have h1 := Nat.and_div_two_pow (a := a) (b := b) (n := 8)
  have h2 := Nat.and_mod_two_pow (a := a) (b := b) (n := 8)
  have := Nat.div_add_mod (a &&& b) 256
  simp only [Nat.reducePow] at h1 h2
  rw [← h1, ← h2]; exact this.symm

def A (M x : Nat) : Nat := (x / 2 &&& M) + (x &&& M)
def B (M x : Nat) : Nat := (x / 4 &&& M) + (x &&& M)
def C (M x : Nat) : Nat := (x / 16 + x) &&& M

theorem A_low : ∀ r : Fin 256, ∀ c : Fin 2, (r.val / 2 + 128 * c.val) &&& 85 = r.val / 2 &&& 85 := by decide +kernel
theorem B_low : ∀ r : Fin 256, ∀ c : Fin 4, (r.val / 4 + 64 * c.val) &&& 51 = r.val / 4 &&& 51 := by decide +kernel
theorem C_low : ∀ r : Fin 69, ∀ c : Fin 5, (r.val / 16 + r.val + 16 * c.val) &&& 15 = (r.val / 16 + r.val) &&& 15 := by decide +kernel

theorem A_byte (M x : Nat) : A (256 * M + 85) x = 256 * A M (x / 256) + A 85 (x % 256) := by
  unfold A
  have e1 : (256 * M + 85) / 256 = M := by omega
  have e2 : (256 * M + 85) % 256 = 85 := by omega
  have e3 : x / 2 / 256 = x / 256 / 2 := by omega
  have e4 : x / 2 % 256 = x % 256 / 2 + 128 * (x / 256 % 2) := by omega
  have hl := A_low ⟨x % 256, by omega⟩ ⟨x / 256 % 2, by omega⟩
  simp only at hl
  rw [and_byte (x / 2), and_byte x, e1, e2, e3, e4, hl]
  omega
theorem B_byte (M x : Nat) : B (256 * M + 51) x = 256 * B M (x / 256) + B 51 (x % 256) := by
  unfold B
  have e1 : (256 * M + 51) / 256 = M := by omega
  have e2 : (256 * M + 51) % 256 = 51 := by omega
  have e3 : x / 4 / 256 = x / 256 / 4 := by omega
  have e4 : x / 4 % 256 = x % 256 / 4 + 64 * (x / 256 % 4) := by omega
  have hl := B_low ⟨x % 256, by omega⟩ ⟨x / 256 % 4, by omega⟩
  simp only at hl
  rw [and_byte (x / 4), and_byte x, e1, e2, e3, e4, hl]
  omega
theorem C_byte (M y r : Nat) (hr : r < 69) (hy : y % 16 < 5) : C (256 * M + 15) (256 * y + r) = 256 * C M y + C 15 r := by
  unfold C
  have e1 : (256 * M + 15) / 256 = M := by omega
  have e2 : (256 * M + 15) % 256 = 15 := by omega
  have e3 : ((256 * y + r) / 16 + (256 * y + r)) / 256 = y / 16 + y := by omega
  have e4 : ((256 * y + r) / 16 + (256 * y + r)) % 256 = r / 16 + r + 16 * (y % 16) := by omega
  have hl := C_low ⟨r, hr⟩ ⟨y % 16, hy⟩
  simp only at hl
  rw [and_byte, e1, e2, e3, e4, hl]

/-- a byte's ones -/
def p8 (r : Nat) : Nat := C 15 (B 51 (A 85 r))
def cnt (n x : Nat) : Nat := ((List.range n).filter fun i => x.testBit i).length
theorem p8_facts : ∀ r : Fin 256, A 85 r.val < 256 ∧ B 51 (A 85 r.val) < 69 ∧ B 51 (A 85 r.val) % 16 < 5 ∧ p8 r.val ≤ 8 ∧ cnt 8 r.val = p8 r.val := by decide +kernel

theorem cnt_byte (n x : Nat) : cnt (8 + n) x = p8 (x % 256) + cnt n (x / 256) := by
  have h8 := (p8_facts ⟨x % 256, by omega⟩).2.2.2.2
  simp only at h8
  rw [← h8]
  unfold cnt
  rw [List.range_add, List.filter_append, List.length_append]
  congr 1
  · congr 1
    apply List.filter_congr
    intro i hi
    have h : i < 8 := by simpa using hi
    have := Nat.testBit_mod_two_pow x 8 i
    simp only [Nat.reducePow, h, decide_true, Bool.true_and] at this
    exact this.symm
  · rw [List.filter_map, List.length_map]
    congr 1
    apply List.filter_congr
    intro i hi
    simp only [Function.comp]
    have := Nat.testBit_div_two_pow (n := 8) x i
    simp only [Nat.reducePow] at this
    rw [this, Nat.add_comm]

/-- one more byte: what the three sums make of the upper bytes is put together with the lowest one's ones -/
theorem sums_byte (M1 M2 M3 x : Nat) (h : B M2 (A M1 (x / 256)) % 16 < 5) :
    C (256 * M3 + 15) (B (256 * M2 + 51) (A (256 * M1 + 85) x)) = 256 * C M3 (B M2 (A M1 (x / 256))) + p8 (x % 256) ∧ B (256 * M2 + 51) (A (256 * M1 + 85) x) % 16 < 5 := by
  obtain ⟨h1, h2, h3, h4, _⟩ := p8_facts ⟨x % 256, by omega⟩
  simp only at h1 h2 h3 h4
  rw [A_byte]
  have e1 : (256 * A M1 (x / 256) + A 85 (x % 256)) / 256 = A M1 (x / 256) := by omega
  have e2 : (256 * A M1 (x / 256) + A 85 (x % 256)) % 256 = A 85 (x % 256) := by omega
  rw [B_byte, e1, e2]
  refine ⟨?_, by omega⟩
  rw [C_byte _ _ _ h2 h]
  rfl

theorem A_le (M x : Nat) : A M x ≤ 2 * M := by
  unfold A
  have h1 := @Nat.and_le_right (x / 2) M
  have h2 := @Nat.and_le_right x M
  omega
theorem B_le (M x : Nat) : B M x ≤ 2 * M := by
  unfold B
  have h1 := @Nat.and_le_right (x / 4) M
  have h2 := @Nat.and_le_right x M
  omega

theorem sums (x : Nat) (hx : x < 18446744073709551616) : ∃ p0 p1 p2 p3 p4 p5 p6 p7 : Nat, p0 ≤ 8 ∧ p1 ≤ 8 ∧ p2 ≤ 8 ∧ p3 ≤ 8 ∧ p4 ≤ 8 ∧ p5 ≤ 8 ∧ p6 ≤ 8 ∧ p7 ≤ 8 ∧ (bl x).length = p0 + p1 + p2 + p3 + p4 + p5 + p6 + p7 ∧
    C 1085102592571150095 (B 3689348814741910323 (A 6148914691236517205 x)) = p0 + 256 * p1 + 65536 * p2 + 16777216 * p3 + 4294967296 * p4 + 1099511627776 * p5 + 281474976710656 * p6 + 72057594037927936 * p7 := by
  have z : ∀ y, y = 0 → C 0 (B 0 (A 0 y)) = 0 ∧ B 0 (A 0 y) % 16 < 5 := fun y _ => by
    have : B 0 (A 0 y) = 0 := by have := B_le 0 (A 0 y); omega
    rw [this]; simp [C]
  have h8 := z (x / 256 / 256 / 256 / 256 / 256 / 256 / 256 / 256) (by omega)
  have h7 := sums_byte 0 0 (0) (x / 256 / 256 / 256 / 256 / 256 / 256 / 256) h8.2
  have h6 := sums_byte _ _ (256 * 0 + 15) (x / 256 / 256 / 256 / 256 / 256 / 256) h7.2
  have h5 := sums_byte _ _ (256 * (256 * 0 + 15) + 15) (x / 256 / 256 / 256 / 256 / 256) h6.2
  have h4 := sums_byte _ _ (256 * (256 * (256 * 0 + 15) + 15) + 15) (x / 256 / 256 / 256 / 256) h5.2
  have h3 := sums_byte _ _ (256 * (256 * (256 * (256 * 0 + 15) + 15) + 15) + 15) (x / 256 / 256 / 256) h4.2
  have h2 := sums_byte _ _ (256 * (256 * (256 * (256 * (256 * 0 + 15) + 15) + 15) + 15) + 15) (x / 256 / 256) h3.2
  have h1 := sums_byte _ _ (256 * (256 * (256 * (256 * (256 * (256 * 0 + 15) + 15) + 15) + 15) + 15) + 15) (x / 256) h2.2
  have h0 := sums_byte _ _ (256 * (256 * (256 * (256 * (256 * (256 * (256 * 0 + 15) + 15) + 15) + 15) + 15) + 15) + 15) x h1.2
  have c : (bl x).length = cnt (8 + (8 + (8 + (8 + (8 + (8 + (8 + (8 + 0)))))))) x := rfl
  rw [cnt_byte, cnt_byte, cnt_byte, cnt_byte, cnt_byte, cnt_byte, cnt_byte, cnt_byte] at c
  have c0 : ∀ y, cnt 0 y = 0 := fun y => rfl
  rw [c0] at c
  have b : ∀ y, p8 (y % 256) ≤ 8 := fun y => by have := (p8_facts ⟨y % 256, by omega⟩).2.2.2.1; exact this
  refine ⟨p8 (x % 256), p8 (x / 256 % 256), p8 (x / 256 / 256 % 256), p8 (x / 256 / 256 / 256 % 256), p8 (x / 256 / 256 / 256 / 256 % 256), p8 (x / 256 / 256 / 256 / 256 / 256 % 256), p8 (x / 256 / 256 / 256 / 256 / 256 / 256 % 256), p8 (x / 256 / 256 / 256 / 256 / 256 / 256 / 256 % 256), b x, b (x / 256), b (x / 256 / 256), b (x / 256 / 256 / 256), b (x / 256 / 256 / 256 / 256), b (x / 256 / 256 / 256 / 256 / 256), b (x / 256 / 256 / 256 / 256 / 256 / 256), b (x / 256 / 256 / 256 / 256 / 256 / 256 / 256), ?_, ?_⟩
  · exact c.trans (by omega)
  · have e := h0.1
    rw [h1.1, h2.1, h3.1, h4.1, h5.1, h6.1, h7.1, h8.1] at e
    exact e.trans (by omega)

theorem sum0 (p0 p1 p2 p3 p4 p5 p6 p7 s3 s4 : Nat) (b0 : p0 ≤ 8) (b1 : p1 ≤ 8) (b2 : p2 ≤ 8) (b3 : p3 ≤ 8) (b4 : p4 ≤ 8) (b5 : p5 ≤ 8) (b6 : p6 ≤ 8) (b7 : p7 ≤ 8) (hs : s3 = p0 + 256 * p1 + 65536 * p2 + 16777216 * p3 + 4294967296 * p4 + 1099511627776 * p5 + 281474976710656 * p6 + 72057594037927936 * p7) (h : s4 = s3 + s3 / 256) :
    s4 = p0 + p1 + 256 * (p1 + p2) + 65536 * (p2 + p3) + 16777216 * (p3 + p4) + 4294967296 * (p4 + p5) + 1099511627776 * (p5 + p6) + 281474976710656 * (p6 + p7) + 72057594037927936 * p7 := by omega
theorem lt0 (p0 p1 p2 p3 p4 p5 p6 p7 s3 : Nat) (b0 : p0 ≤ 8) (b1 : p1 ≤ 8) (b2 : p2 ≤ 8) (b3 : p3 ≤ 8) (b4 : p4 ≤ 8) (b5 : p5 ≤ 8) (b6 : p6 ≤ 8) (b7 : p7 ≤ 8) (hs : s3 = p0 + 256 * p1 + 65536 * p2 + 16777216 * p3 + 4294967296 * p4 + 1099511627776 * p5 + 281474976710656 * p6 + 72057594037927936 * p7) : s3 < 1152921504606846976 := by omega
theorem sum1 (p0 p1 p2 p3 p4 p5 p6 p7 s4 s5 : Nat) (b0 : p0 ≤ 8) (b1 : p1 ≤ 8) (b2 : p2 ≤ 8) (b3 : p3 ≤ 8) (b4 : p4 ≤ 8) (b5 : p5 ≤ 8) (b6 : p6 ≤ 8) (b7 : p7 ≤ 8) (hs : s4 = p0 + p1 + 256 * (p1 + p2) + 65536 * (p2 + p3) + 16777216 * (p3 + p4) + 4294967296 * (p4 + p5) + 1099511627776 * (p5 + p6) + 281474976710656 * (p6 + p7) + 72057594037927936 * p7) (h : s5 = s4 + s4 / 65536) :
    s5 = (p0 + p1 + p2 + p3) + 256 * (p1 + p2 + p3 + p4) + 65536 * (p2 + p3 + p4 + p5) + 16777216 * (p3 + p4 + p5 + p6) + 4294967296 * (p4 + p5 + p6 + p7) + 1099511627776 * (p5 + p6 + p7) + 281474976710656 * (p6 + p7) + 72057594037927936 * p7 := by omega
theorem lt1 (p0 p1 p2 p3 p4 p5 p6 p7 s4 : Nat) (b0 : p0 ≤ 8) (b1 : p1 ≤ 8) (b2 : p2 ≤ 8) (b3 : p3 ≤ 8) (b4 : p4 ≤ 8) (b5 : p5 ≤ 8) (b6 : p6 ≤ 8) (b7 : p7 ≤ 8) (hs : s4 = p0 + p1 + 256 * (p1 + p2) + 65536 * (p2 + p3) + 16777216 * (p3 + p4) + 4294967296 * (p4 + p5) + 1099511627776 * (p5 + p6) + 281474976710656 * (p6 + p7) + 72057594037927936 * p7) : s4 < 1152921504606846976 := by omega
theorem sum2 (p0 p1 p2 p3 p4 p5 p6 p7 s5 s6 : Nat) (b0 : p0 ≤ 8) (b1 : p1 ≤ 8) (b2 : p2 ≤ 8) (b3 : p3 ≤ 8) (b4 : p4 ≤ 8) (b5 : p5 ≤ 8) (b6 : p6 ≤ 8) (b7 : p7 ≤ 8) (hs : s5 = (p0 + p1 + p2 + p3) + 256 * (p1 + p2 + p3 + p4) + 65536 * (p2 + p3 + p4 + p5) + 16777216 * (p3 + p4 + p5 + p6) + 4294967296 * (p4 + p5 + p6 + p7) + 1099511627776 * (p5 + p6 + p7) + 281474976710656 * (p6 + p7) + 72057594037927936 * p7) (h : s6 = s5 + s5 / 4294967296) :
    s6 = (p0 + p1 + p2 + p3 + p4 + p5 + p6 + p7) + 256 * (p1 + p2 + p3 + p4 + p5 + p6 + p7) + 65536 * (p2 + p3 + p4 + p5 + p6 + p7) + 16777216 * (p3 + p4 + p5 + p6 + p7) + 4294967296 * (p4 + p5 + p6 + p7) + 1099511627776 * (p5 + p6 + p7) + 281474976710656 * (p6 + p7) + 72057594037927936 * p7 := by omega
theorem lt2 (p0 p1 p2 p3 p4 p5 p6 p7 s5 : Nat) (b0 : p0 ≤ 8) (b1 : p1 ≤ 8) (b2 : p2 ≤ 8) (b3 : p3 ≤ 8) (b4 : p4 ≤ 8) (b5 : p5 ≤ 8) (b6 : p6 ≤ 8) (b7 : p7 ≤ 8) (hs : s5 = (p0 + p1 + p2 + p3) + 256 * (p1 + p2 + p3 + p4) + 65536 * (p2 + p3 + p4 + p5) + 16777216 * (p3 + p4 + p5 + p6) + 4294967296 * (p4 + p5 + p6 + p7) + 1099511627776 * (p5 + p6 + p7) + 281474976710656 * (p6 + p7) + 72057594037927936 * p7) : s5 < 1152921504606846976 := by omega
theorem lt3 (p0 p1 p2 p3 p4 p5 p6 p7 s6 : Nat) (b0 : p0 ≤ 8) (b1 : p1 ≤ 8) (b2 : p2 ≤ 8) (b3 : p3 ≤ 8) (b4 : p4 ≤ 8) (b5 : p5 ≤ 8) (b6 : p6 ≤ 8) (b7 : p7 ≤ 8) (hs : s6 = (p0 + p1 + p2 + p3 + p4 + p5 + p6 + p7) + 256 * (p1 + p2 + p3 + p4 + p5 + p6 + p7) + 65536 * (p2 + p3 + p4 + p5 + p6 + p7) + 16777216 * (p3 + p4 + p5 + p6 + p7) + 4294967296 * (p4 + p5 + p6 + p7) + 1099511627776 * (p5 + p6 + p7) + 281474976710656 * (p6 + p7) + 72057594037927936 * p7) : s6 < 1152921504606846976 := by omega
theorem low7 (p0 p1 p2 p3 p4 p5 p6 p7 s6 : Nat) (b0 : p0 ≤ 8) (b1 : p1 ≤ 8) (b2 : p2 ≤ 8) (b3 : p3 ≤ 8) (b4 : p4 ≤ 8) (b5 : p5 ≤ 8) (b6 : p6 ≤ 8) (b7 : p7 ≤ 8) (hs : s6 = (p0 + p1 + p2 + p3 + p4 + p5 + p6 + p7) + 256 * (p1 + p2 + p3 + p4 + p5 + p6 + p7) + 65536 * (p2 + p3 + p4 + p5 + p6 + p7) + 16777216 * (p3 + p4 + p5 + p6 + p7) + 4294967296 * (p4 + p5 + p6 + p7) + 1099511627776 * (p5 + p6 + p7) + 281474976710656 * (p6 + p7) + 72057594037927936 * p7) : s6 % 128 = p0 + p1 + p2 + p3 + p4 + p5 + p6 + p7 := by omega
theorem w_u64 (n : Nat) (h : n < 1152921504606846976) : IntKind.u64.wrap (n : Int) = n := by rw [IntKind.wrap_u64]; omega
theorem w_add (a b c : Nat) (h : b = a + a / c) (hb : b < 1152921504606846976) : IntKind.u64.wrap ((a : Int) + (a : Int) / (c : Int)) = (b : Int) := by
  have : (a : Int) + (a : Int) / (c : Int) = (b : Int) := by rw [h, Int.natCast_add, Int.natCast_ediv]
  rw [this]; exact w_u64 b hb
theorem w_low (n k : Nat) (h1 : n < 1152921504606846976) (h2 : n % 128 = k) : wrap64 (n : Int) % 128 = (k : Int) := by
  rw [wrap_in (by omega) (by omega)]; omega
theorem count_f (m : Nat) (hm : m < 18446744073709551616) : group_Count.f (m : Int) = some (((bl m).length : Nat) : Int) := by
  obtain ⟨p0, p1, p2, p3, p4, p5, p6, p7, b0, b1, b2, b3, b4, b5, b6, b7, hl, hs⟩ := sums m hm
  unfold group_Count.f bits_OnesCount64.f
  simp only [Option.bind_some, Option.some.injEq]
  have w64 : ∀ n : Nat, n < 18446744073709551616 → IntKind.u64.wrap (n : Int) = n := fun n h => by rw [IntKind.wrap_u64]; omega
  have hA := A_le 6148914691236517205 m
  have hB := B_le 3689348814741910323 (A 6148914691236517205 m)
  have e1 : IntKind.u64.wrap (Go.bits .and .u64 ((m : Int) / 2) 6148914691236517205 + Go.bits .and .u64 (m : Int) 6148914691236517205) = ((A 6148914691236517205 m : Nat) : Int) := by
    have a1 : (m : Int) / 2 = ((m / 2 : Nat) : Int) := by omega
    have a2 : Go.bits .and .u64 ((m / 2 : Nat) : Int) 6148914691236517205 = _ := u64_and_nat (m / 2) 6148914691236517205 (by omega) (by decide)
    have a3 : Go.bits .and .u64 (m : Int) 6148914691236517205 = _ := u64_and_nat m 6148914691236517205 hm (by decide)
    rw [a1, a2, a3, ← Int.natCast_add]
    exact w64 _ (by unfold A at hA; omega)
  rw [e1]
  generalize A 6148914691236517205 m = s1 at *
  have e2 : IntKind.u64.wrap (Go.bits .and .u64 ((s1 : Int) / 4) 3689348814741910323 + Go.bits .and .u64 (s1 : Int) 3689348814741910323) = ((B 3689348814741910323 s1 : Nat) : Int) := by
    have a1 : (s1 : Int) / 4 = ((s1 / 4 : Nat) : Int) := by omega
    have a2 : Go.bits .and .u64 ((s1 / 4 : Nat) : Int) 3689348814741910323 = _ := u64_and_nat (s1 / 4) 3689348814741910323 (by omega) (by decide)
    have a3 : Go.bits .and .u64 (s1 : Int) 3689348814741910323 = _ := u64_and_nat s1 3689348814741910323 (by omega) (by decide)
    rw [a1, a2, a3, ← Int.natCast_add]
    exact w64 _ (by unfold B at hB; omega)
  rw [e2]
  generalize B 3689348814741910323 s1 = s2 at *
  have e3 : Go.bits .and .u64 (IntKind.u64.wrap ((s2 : Int) / 16 + (s2 : Int))) 1085102592571150095 = ((C 1085102592571150095 s2 : Nat) : Int) := by
    have a1 : (s2 : Int) / 16 + (s2 : Int) = ((s2 / 16 + s2 : Nat) : Int) := by omega
    rw [a1, w64 _ (by omega)]
    exact u64_and_nat (s2 / 16 + s2) 1085102592571150095 (by omega) (by decide)
  rw [e3]
  generalize C 1085102592571150095 s2 = s3 at *
  obtain ⟨s4, h4⟩ : ∃ y, y = s3 + s3 / 256 := ⟨_, rfl⟩
  obtain ⟨s5, h5⟩ : ∃ y, y = s4 + s4 / 65536 := ⟨_, rfl⟩
  obtain ⟨s6, h6⟩ : ∃ y, y = s5 + s5 / 4294967296 := ⟨_, rfl⟩
  have g4 := sum0 p0 p1 p2 p3 p4 p5 p6 p7 s3 s4 b0 b1 b2 b3 b4 b5 b6 b7 hs h4
  have g5 := sum1 p0 p1 p2 p3 p4 p5 p6 p7 s4 s5 b0 b1 b2 b3 b4 b5 b6 b7 g4 h5
  have g6 := sum2 p0 p1 p2 p3 p4 p5 p6 p7 s5 s6 b0 b1 b2 b3 b4 b5 b6 b7 g5 h6
  have w1 : IntKind.u64.wrap ((s3 : Int) + (s3 : Int) / 256) = (s4 : Int) := w_add s3 s4 256 h4 (lt1 p0 p1 p2 p3 p4 p5 p6 p7 s4 b0 b1 b2 b3 b4 b5 b6 b7 g4)
  have w2 : IntKind.u64.wrap ((s4 : Int) + (s4 : Int) / 65536) = (s5 : Int) := w_add s4 s5 65536 h5 (lt2 p0 p1 p2 p3 p4 p5 p6 p7 s5 b0 b1 b2 b3 b4 b5 b6 b7 g5)
  have w3 : IntKind.u64.wrap ((s5 : Int) + (s5 : Int) / 4294967296) = (s6 : Int) := w_add s5 s6 4294967296 h6 (lt3 p0 p1 p2 p3 p4 p5 p6 p7 s6 b0 b1 b2 b3 b4 b5 b6 b7 g6)
  rw [w1, w2, w3, i64_and127, hl]
  exact w_low s6 _ (lt3 p0 p1 p2 p3 p4 p5 p6 p7 s6 b0 b1 b2 b3 b4 b5 b6 b7 g6) (low7 p0 p1 p2 p3 p4 p5 p6 p7 s6 b0 b1 b2 b3 b4 b5 b6 b7 g6)
end Go.Proofs.YtjlegibfeenglaaDoor
