/-
  The reference's set of a list's numbers: the same set.
-/
import Derived.Test.YtjlegibfeenglaaDoorXAwake
namespace Go.Proofs.YtjlegibfeenglaaDoor
open Go Go.RowKit Go.Proofs.YtjlegibfeenglaaDoor.XB Go.Proofs.YtjlegibfeenglaaDoor.XFuel Go.Proofs.YtjlegibfeenglaaDoorW.PrintWords
set_option linter.unusedVariables false
set_option linter.unusedSimpArgs false

theorem dwrap (m : Nat) (h : 2 * m < 18446744073709551616) : IntKind.u64.wrap (2 * (m : Int)) = ((2 * m : Nat) : Int) := by rw [IntKind.wrap_u64]; omega
theorem iwrap (m : Nat) (h : m + 1 < 18446744073709551616) : IntKind.u64.wrap ((m : Int) + 1) = ((m + 1 : Nat) : Int) := by rw [IntKind.wrap_u64]; omega
theorem down (j : Nat) (h : j ≤ 64) : wrap64 ((j : Int) - 1) = (j : Int) - 1 := wrap_in (by omega) (by omega)

theorem refOf_l1 (l : List Int) (hl : l.length ≤ 9223372036854775807) (m j : Nat) (hj : j ≤ 64) (hm : m + 1 < 18446744073709551616) (r : Int)
    (h1 : Ev (fun k => semblanceref16_Of.l0 k l ((m + 1 : Nat) : Int) ((j : Int) - 1)) r ∨ (j : Int) ∉ l) (h0 : Ev (fun k => semblanceref16_Of.l0 k l (m : Int) ((j : Int) - 1)) r ∨ (j : Int) ∈ l) (d : Nat) :
    ∀ n, d + n = l.length → (∀ x ∈ l.take n, x ≠ (j : Int)) → Ev (fun k => semblanceref16_Of.l1 k l (m : Int) (j : Int) (n : Int)) r := by
  induction d with
  | zero =>
    intro n h hno
    obtain rfl : n = l.length := by omega
    rw [List.take_length] at hno
    have hnot : (j : Int) ∉ l := fun hx => hno _ hx rfl
    refine Ev.succ ?_
    have e : (fun k => semblanceref16_Of.l1 (k + 1) l (m : Int) (j : Int) (l.length : Int)) = fun k => semblanceref16_Of.l0 k l (m : Int) ((j : Int) - 1) := by
      funext k
      rw [semblanceref16_Of.l1, if_neg (by omega), down j hj]
    rw [e]
    exact h0.resolve_right hnot
  | succ d ih =>
    intro n h hno
    have hn : n < l.length := by omega
    have c1 : (n : Int) < (l.length : Int) := by omega
    have c2 : (0 : Int) ≤ (n : Int) := by omega
    refine Ev.succ ?_
    by_cases hx : l[n] = (j : Int)
    · have hin : (j : Int) ∈ l := hx ▸ List.getElem_mem hn
      have e : (fun k => semblanceref16_Of.l1 (k + 1) l (m : Int) (j : Int) (n : Int)) = fun k => semblanceref16_Of.l0 k l ((m + 1 : Nat) : Int) ((j : Int) - 1) := by
        funext k
        rw [semblanceref16_Of.l1, if_pos c1, if_pos c2, rd_at hn, if_pos hx, down j hj, iwrap m hm]
      rw [e]
      exact h1.resolve_right (fun hq => hq hin)
    · have e : (fun k => semblanceref16_Of.l1 (k + 1) l (m : Int) (j : Int) (n : Int)) = fun k => semblanceref16_Of.l1 k l (m : Int) (j : Int) ((n + 1 : Nat) : Int) := by
        funext k
        rw [semblanceref16_Of.l1, if_pos c1, if_pos c2, rd_at hn, if_neg hx, wrap_succ (Nat.lt_of_lt_of_le hn hl)]
      rw [e]
      refine ih (n + 1) (by omega) ?_
      intro x hxm
      rw [List.take_add_one, List.getElem?_eq_getElem hn] at hxm
      rcases List.mem_append.1 hxm with hxm | hxm
      · exact hno x hxm
      · obtain rfl : x = l[n] := by simpa using hxm
        exact hx

/-- what j further doublings make of m -/
def R (l : List Int) : Nat → Nat → Nat
  | 0, m => m
  | j + 1, m => R l j (2 * m + if (j : Int) ∈ l then 1 else 0)
theorem R_bit (l : List Int) : ∀ (j m k : Nat), (R l j m).testBit k = if k < j then decide ((k : Int) ∈ l) else m.testBit (k - j)
  | 0, m, k => by simp [R]
  | j + 1, m, k => by
    rw [R, R_bit l j]
    by_cases h : k < j
    · rw [if_pos h, if_pos (by omega)]
    · rw [if_neg h]
      by_cases he : k = j
      · subst he
        rw [if_pos (Nat.lt_succ_self k), Nat.sub_self, Nat.testBit_zero]
        by_cases hk : (k : Int) ∈ l
        · rw [if_pos hk]
          have : (2 * m + 1) % 2 = 1 := by omega
          simp [this, hk]
        · rw [if_neg hk]
          have : (2 * m + 0) % 2 = 0 := by omega
          simp [this, hk]
      · rw [if_neg (show ¬ k < j + 1 by omega)]
        obtain ⟨i, rfl⟩ : ∃ i, k = j + (i + 1) := ⟨k - j - 1, by omega⟩
        have e1 : j + (i + 1) - j = i + 1 := by omega
        have e2 : j + (i + 1) - (j + 1) = i := by omega
        rw [e1, e2, Nat.testBit_succ]
        have e3 : (2 * m + if (j : Int) ∈ l then 1 else 0) / 2 = m := by split <;> omega
        rw [e3]

theorem dbl_lt {j m : Nat} (hj : j + 1 ≤ 64) (h : m < 2 ^ (64 - (j + 1))) (b : Nat) (hb : b ≤ 1) : 2 * m + b < 2 ^ (64 - j) := by
  have : 64 - j = (64 - (j + 1)) + 1 := by omega
  rw [this, Nat.pow_succ]; omega
theorem pow_le64 (j : Nat) : 2 ^ (64 - j) ≤ 18446744073709551616 := by
  calc 2 ^ (64 - j) ≤ 2 ^ 64 := Nat.pow_le_pow_right (by decide) (by omega)
    _ = _ := by decide

theorem refOf_l0 (l : List Int) (hl : l.length ≤ 9223372036854775807) : ∀ (j m : Nat), j ≤ 64 → m < 2 ^ (64 - j) → Ev (fun k => semblanceref16_Of.l0 k l (m : Int) ((j : Int) - 1)) ((R l j m : Nat) : Int)
  | 0, m, hj, hm => by
    refine Ev.succ ⟨0, fun k _ => ?_⟩
    show semblanceref16_Of.l0 (k + 1) l (m : Int) (((0 : Nat) : Int) - 1) = _
    rw [semblanceref16_Of.l0, if_neg (by omega)]
    rfl
  | j + 1, m, hj, hm => by
    have hd : 2 * m + 1 < 2 ^ (64 - j) := dbl_lt hj hm 1 (Nat.le_refl _)
    have hd64 : 2 * m + 1 < 18446744073709551616 := Nat.lt_of_lt_of_le hd (pow_le64 j)
    refine Ev.succ ?_
    have e : (fun k => semblanceref16_Of.l0 (k + 1) l (m : Int) (((j + 1 : Nat) : Int) - 1)) = fun k => semblanceref16_Of.l1 k l ((2 * m : Nat) : Int) (j : Int) ((0 : Nat) : Int) := by
      funext k
      have e1 : ((j + 1 : Nat) : Int) - 1 = (j : Int) := by omega
      rw [semblanceref16_Of.l0, e1, if_pos (by omega), dwrap m (by omega)]
      rfl
    rw [e]
    refine refOf_l1 l hl (2 * m) j (by omega) hd64 _ ?_ ?_ l.length 0 (by omega) (by simp)
    · by_cases hin : (j : Int) ∈ l
      · refine .inl ?_
        have := refOf_l0 l hl j (2 * m + 1) (by omega) hd
        rw [R, if_pos hin]; exact this
      · exact .inr hin
    · by_cases hin : (j : Int) ∈ l
      · exact .inr hin
      · refine .inl ?_
        have := refOf_l0 l hl j (2 * m) (by omega) (by omega)
        rw [R, if_neg hin]; exact this

theorem refOf (l : List Int) (hl : l.length ≤ 9223372036854775807) : ∃ k, semblanceref16_Of.f k l = some ((U l : Nat) : Int) := by
  obtain ⟨K, hK⟩ := refOf_l0 l hl 64 0 (Nat.le_refl _) (by decide)
  have e : R l 64 0 = U l := by
    apply U_of; intro k
    rw [R_bit]
    by_cases h : k < 64
    · simp [h]
    · simp [h]
  rw [e] at hK
  exact ⟨K, hK K (Nat.le_refl _)⟩
theorem refOf_calls (l : List Int) (hl : l.length ≤ 9223372036854775807) (A0 : Option Addr) (c0 : Nat) (w : World) (h0 : Kd.C (Kd.int .i64) w A0 l.length l) (hc0 : l.length ≤ c0) :
    Calls Tryd.prog 8 #[.slice A0 l.length c0] w fun e w' => e = .returned (.int .u64 (U l)) ∧ ∃ n, w' = w.drewN n := by
  obtain ⟨k, hk⟩ := refOf l hl
  refine (semblanceref16_Of.calls k A0 c0 l _ w h0 hc0 hk).mono ?_
  rintro e w' ⟨rfl, ⟨h⟩⟩
  exact ⟨rfl, h⟩
end Go.Proofs.YtjlegibfeenglaaDoor
