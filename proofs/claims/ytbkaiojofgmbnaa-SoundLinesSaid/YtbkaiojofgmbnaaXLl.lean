import Derived.Test.YtbkaiojofgmbnaaXFind
import Derived.Test.YtbkaiojofgmbnaaXFuel
import Derived.Test.YtbkaiojofgmbnaaXLo
import Derived.Test.YtbkaiojofgmbnaaXLp2
import Derived.Test.YtbkaiojofgmbnaaXLp8
namespace Go.Proofs.Ytbkaiojofgmbnaa.XL
open Go.RowKit Go.Proofs.Ytbkaiojofgmbnaa.XRead Go.Proofs.Ytbkaiojofgmbnaa.XL Go.Proofs.YtbkaiojofgmbnaaW.PrintWords Go.Proofs.YtbkaiojofgmbnaaW.PrintLast Go.Proofs.YtbkaiojofgmbnaaW.PrintMore
set_option linter.unusedVariables false
set_option linter.unusedSimpArgs false
section
open Go.Proofs.Ytbkaiojofgmbnaa.XFuel Go.Proofs.Ytbkaiojofgmbnaa.XFind
/-! ### numbers' texts -/
theorem dg_stable : ∀ (f g m : Nat), 1 ≤ f → m < 10 ^ f → f ≤ g → val_digits.dg g m = val_digits.dg f m
  | 0, _, _, h, _, _ => absurd h (by omega)
  | f + 1, 0, _, _, _, h => absurd h (by omega)
  | f + 1, g + 1, m, _, hm, hg => by
    rw [val_digits.dg, val_digits.dg]
    by_cases h : m < 10
    · rw [if_pos h, if_pos h]
    · rw [if_neg h, if_neg h]
      have h1 : m / 10 < 10 ^ f := by rw [Nat.pow_succ] at hm; omega
      have h2 : 1 ≤ f := by
        rcases Nat.eq_zero_or_pos f with e | e
        · subst e; simp at hm; omega
        · exact e
      rw [dg_stable f g (m / 10) h2 h1 (by omega)]
theorem dg_len : ∀ (f m : Nat), (val_digits.dg f m).length ≤ f
  | 0, _ => Nat.le_refl 0
  | f + 1, m => by
    rw [val_digits.dg, List.length_append]
    have := dg_len f (m / 10)
    split <;> simp <;> omega
/-- a number's text -/
def numT (n : Int) : ByteArray := if n < 0 then (⟨#[45]⟩ : ByteArray) ++ ⟨(val_digits.dg 20 (-n).toNat).toArray⟩ else ⟨(val_digits.dg 20 n.toNat).toArray⟩
theorem numT_size (n : Int) : (numT n).size ≤ 21 := by
  unfold numT
  have h1 := dg_len 20 (-n).toNat
  have h2 := dg_len 20 n.toNat
  split
  · rw [ByteArray.size_append]
    show 1 + (val_digits.dg 20 (-n).toNat).toArray.size ≤ 21
    simp; omega
  · show (val_digits.dg 20 n.toNat).toArray.size ≤ 21
    simp; omega
theorem put_prog (n : Int) (h0 : -9223372036854775808 ≤ n) (h1 : n ≤ 9223372036854775807) : val_Put.f n = some (numT n) := by
  unfold val_Put.f numT
  by_cases h : n < 0
  · rw [if_pos h, if_pos h]
    have w1 : IntKind.u64.wrap n = n + 18446744073709551616 := by rw [IntKind.wrap_u64]; omega
    have w2 : IntKind.u64.wrap (-(n + 18446744073709551616)) = -n := by rw [IntKind.wrap_u64]; omega
    rw [w1, w2, val_digits.f, if_pos (by omega), Option.bind_some]
    have h3 := dg_len 20 (-n).toNat
    rw [if_pos (by show 1 + (val_digits.dg 20 (-n).toNat).toArray.size ≤ _; simp; omega)]
  · rw [if_neg h, if_neg h]
    have w1 : IntKind.u64.wrap n = n := by rw [IntKind.wrap_u64]; omega
    rw [w1, val_digits.f, if_pos (by omega)]
    rfl
theorem mk_append (a b : List UInt8) : (⟨a.toArray⟩ : ByteArray) ++ (⟨b.toArray⟩ : ByteArray) = ⟨(a ++ b).toArray⟩ := by
  apply ByteArray.ext
  simp [ByteArray.data_append]
theorem dig_ext : ∀ d : Nat, d < 10 → (⟨#[48, 49, 50, 51, 52, 53, 54, 55, 56, 57]⟩ : ByteArray).extract d (d + 1) = ⟨[UInt8.ofNat (48 + d)].toArray⟩
  | 0, _ => rfl
  | 1, _ => rfl
  | 2, _ => rfl
  | 3, _ => rfl
  | 4, _ => rfl
  | 5, _ => rfl
  | 6, _ => rfl
  | 7, _ => rfl
  | 8, _ => rfl
  | 9, _ => rfl
  | d + 10, h => absurd h (by omega)
theorem text_ev : ∀ (f m : Nat), 1 ≤ f → f ≤ 20 → m < 10 ^ f → m < 9223372036854775808 → Ev (fun k => semblanceref01_Text.f k (m : Int)) ⟨(val_digits.dg f m).toArray⟩ := by
  intro f
  induction f with
  | zero => intro m h; omega
  | succ f ih =>
    intro m _ hf hm h63
    have hd : m % 10 < 10 := Nat.mod_lt _ (by decide)
    have e1 : Int.tmod (m : Int) 10 = ((m % 10 : Nat) : Int) := by rw [Int.tmod_eq_emod_of_nonneg (by omega)]; omega
    have e2 : wrap64 (((m % 10 : Nat) : Int) + 1) = ((m % 10 + 1 : Nat) : Int) := wrap_succ (by omega)
    have e3 : wrap64 (Int.tdiv (m : Int) 10) = ((m / 10 : Nat) : Int) := by rw [Int.tdiv_eq_ediv_of_nonneg (by omega)]; unfold wrap64; omega
    have h1 : (0 : Int) ≤ ((m % 10 : Nat) : Int) := by omega
    have h2 : ((m % 10 : Nat) : Int) ≤ ((m % 10 + 1 : Nat) : Int) := by omega
    have h3 : ((m % 10 + 1 : Nat) : Int) ≤ 10 := by omega
    apply Ev.succ
    simp only [semblanceref01_Text.f, e1, e2, e3, h1, h2, h3, if_true, Int.toNat_natCast, dig_ext _ hd, val_digits.dg]
    by_cases h : m < 10
    · have h4 : (m : Int) < 10 := by omega
      simp only [h4, if_true, h, List.nil_append]
      exact Ev.now _
    · have h4 : ¬ (m : Int) < 10 := by omega
      have h5 : 1 ≤ f := by
        rcases Nat.eq_zero_or_pos f with e | e
        · subst e; simp at hm; omega
        · exact e
      simp only [h4, if_false, h]
      refine Ev.bind (ih (m / 10) h5 (by omega) (by rw [Nat.pow_succ] at hm; omega) (by omega)) ?_
      have h6 := dg_len f (m / 10)
      have h7 : (⟨(val_digits.dg f (m / 10)).toArray⟩ : ByteArray).size + (⟨[UInt8.ofNat (48 + m % 10)].toArray⟩ : ByteArray).size ≤ 9223372036854775807 := by
        show (val_digits.dg f (m / 10)).toArray.size + [UInt8.ofNat (48 + m % 10)].toArray.size ≤ _
        simp; omega
      simp only [h7, if_true, mk_append]
      exact Ev.now _
theorem put_ref (n : Int) (h0 : -9223372036854775808 ≤ n) (h1 : n ≤ 9223372036854775807) : Ev (fun k => semblanceref01_Put.f k n) (numT n) := by
  unfold semblanceref01_Put.f numT
  by_cases h : n ≥ 0
  · obtain ⟨m, rfl⟩ : ∃ m : Nat, n = m := ⟨n.toNat, by omega⟩
    have h2 : ¬ (m : Int) < 0 := by omega
    simp only [h, if_true, h2, if_false, Int.toNat_natCast]
    exact Ev.bind (text_ev 20 m (by omega) (by omega) (Nat.lt_of_lt_of_le (show m < 9223372036854775808 by omega) (by decide)) (by omega)) (Ev.now _)
  · obtain ⟨m, rfl⟩ : ∃ m : Nat, n = -(m : Int) := ⟨(-n).toNat, by omega⟩
    have hd : m % 10 < 10 := Nat.mod_lt _ (by decide)
    have e1 : Int.tmod (-(m : Int)) 10 = -((m % 10 : Nat) : Int) := by rw [Int.neg_tmod, Int.tmod_eq_emod_of_nonneg (by omega)]; omega
    have e0 : wrap64 (- -((m % 10 : Nat) : Int)) = ((m % 10 : Nat) : Int) := by unfold wrap64; omega
    have e2 : wrap64 (((m % 10 : Nat) : Int) + 1) = ((m % 10 + 1 : Nat) : Int) := wrap_succ (by omega)
    have e3 : wrap64 (-(wrap64 (Int.tdiv (-(m : Int)) 10))) = ((m / 10 : Nat) : Int) := by rw [Int.neg_tdiv, Int.tdiv_eq_ediv_of_nonneg (by omega)]; unfold wrap64; omega
    have h2 : (0 : Int) ≤ ((m % 10 : Nat) : Int) := by omega
    have h3 : ((m % 10 : Nat) : Int) ≤ ((m % 10 + 1 : Nat) : Int) := by omega
    have h4 : ((m % 10 + 1 : Nat) : Int) ≤ 10 := by omega
    have h5 : -(m : Int) < 0 := by omega
    have e4 : (- -(m : Int)).toNat = m := by omega
    simp only [h, if_false, e1, e0, e2, e3, h2, h3, h4, h5, if_true, Int.toNat_natCast, dig_ext _ hd, e4]
    have hs : (⟨[UInt8.ofNat (48 + m % 10)].toArray⟩ : ByteArray).size = 1 := rfl
    by_cases h10 : m < 10
    · have h6 : -(m : Int) > -10 := by omega
      have h7 : 1 + (⟨[UInt8.ofNat (48 + m % 10)].toArray⟩ : ByteArray).size ≤ 9223372036854775807 := by rw [hs]; decide
      have h8 : val_digits.dg 20 m = [UInt8.ofNat (48 + m % 10)] := by rw [val_digits.dg, if_pos h10, List.nil_append]
      simp only [h6, if_true, h7, h8]
      exact Ev.now _
    · have h6 : ¬ -(m : Int) > -10 := by omega
      have h8 : val_digits.dg 20 m = val_digits.dg 19 (m / 10) ++ [UInt8.ofNat (48 + m % 10)] := by rw [val_digits.dg, if_neg h10]
      have h9 := dg_len 19 (m / 10)
      have hz : (⟨(val_digits.dg 19 (m / 10)).toArray⟩ : ByteArray).size ≤ 19 := by
        show (val_digits.dg 19 (m / 10)).toArray.size ≤ 19
        simpa using h9
      have h7 : 1 + (⟨(val_digits.dg 19 (m / 10)).toArray⟩ : ByteArray).size ≤ 9223372036854775807 := by omega
      have h11 : ((⟨#[45]⟩ : ByteArray) ++ (⟨(val_digits.dg 19 (m / 10)).toArray⟩ : ByteArray)).size + (⟨[UInt8.ofNat (48 + m % 10)].toArray⟩ : ByteArray).size ≤ 9223372036854775807 := by
        rw [ByteArray.size_append, hs]
        show 1 + _ + 1 ≤ _
        omega
      simp only [h6, if_false]
      refine Ev.bind (text_ev 19 (m / 10) (by omega) (by omega) (Nat.lt_of_lt_of_le (show m / 10 < 922337203685477581 by omega) (by decide)) (by omega)) ?_
      simp only [h7, h11, if_true]
      rw [h8, ← mk_append, ByteArray.append_assoc]
      exact Ev.now _
end
end Go.Proofs.Ytbkaiojofgmbnaa.XL
