/-
  Sets of small numbers: what the printed functions compute, in closed form.
-/
import Derived.Test.YtjlegibfeenglaaDoorXSets
import Derived.Test.YtjlegibfeenglaaDoorXColl
import Derived.Test.YtjlegibfeenglaaDoorXBp
import Derived.Test.YtjlegibfeenglaaDoorXFuel
namespace Go.Proofs.YtjlegibfeenglaaDoor
open Go Go.RowKit Go.Proofs.YtjlegibfeenglaaDoor.XB Go.Proofs.YtjlegibfeenglaaDoor.XFuel Go.Proofs.YtjlegibfeenglaaDoorW.PrintWords
set_option linter.unusedVariables false
set_option linter.unusedSimpArgs false

/-- the set of one number -/
def sb (i : Int) : Nat := if 0 ≤ i ∧ i ≤ 63 then 2 ^ i.toNat else 0
theorem sb_lt (i : Int) : sb i < 18446744073709551616 := by
  unfold sb; split
  · next h => calc 2 ^ i.toNat ≤ 2 ^ 63 := Nat.pow_le_pow_right (by decide) (by omega)
      _ < _ := by decide
  · decide
theorem sb_bit (i : Int) (k : Nat) : (sb i).testBit k = decide (k < 64 ∧ (k : Int) = i) := by
  unfold sb; split
  · next h => rw [Nat.testBit_two_pow]; apply Bool.eq_iff_iff.2; simp; omega
  · next h => simp; omega
theorem bit_f (i : Int) : group_bit.f i = some ((sb i : Nat) : Int) := by
  unfold group_bit.f sb
  by_cases h0 : i < 0
  · rw [if_pos h0, if_neg (by omega)]; rfl
  rw [if_neg h0]
  by_cases h1 : i > 63
  · rw [if_pos h1, if_neg (by omega)]; rfl
  rw [if_neg h1, if_pos (by omega : 0 ≤ i ∧ i ≤ 63)]
  have hw : IntKind.u64.wrap i = i := by rw [IntKind.wrap_u64]; omega
  rw [hw, if_pos (by omega)]
  obtain ⟨n, rfl⟩ : ∃ n : Nat, i = n := ⟨i.toNat, by omega⟩
  have hn : n < 64 := by omega
  have : ∀ m : Fin 64, shl .u64 1 ((m.val : Nat) : Int) = ((2 ^ m.val : Nat) : Int) := by decide +kernel
  have := this ⟨n, hn⟩
  simp only [Int.toNat_natCast]
  rw [this]

/-- is a number in a set? -/
def hs (m : Nat) (i : Int) : Bool := decide (0 ≤ i ∧ i ≤ 63) && m.testBit i.toNat
theorem has_f (m : Nat) (hm : m < 18446744073709551616) (i : Int) : group_Has.f (m : Int) i = some (hs m i) := by
  unfold group_Has.f
  rw [bit_f]
  simp only [Option.bind_some, Option.some.injEq]
  rw [u64_and_nat _ _ hm (sb_lt i)]
  unfold hs
  by_cases h : 0 ≤ i ∧ i ≤ 63
  · have e : sb i = 2 ^ i.toNat := by unfold sb; rw [if_pos h]
    rw [e, nat_bit, Nat.testBit_eq_decide_div_mod_eq]
    have hp : 0 < 2 ^ i.toNat := Nat.two_pow_pos _
    rcases Nat.mod_two_eq_zero_or_one (m / 2 ^ i.toNat) with h0 | h0
    · rw [h0]; simp
    · have hne : (((1 * 2 ^ i.toNat : Nat) : Int) != 0) = true := by rw [bne_iff_ne]; generalize 2 ^ i.toNat = c at hp; omega
      rw [h0, hne]; simp [h]
  · have e : sb i = 0 := by unfold sb; rw [if_neg h]
    rw [e]; simp [h]

theorem with_f (m : Nat) (hm : m < 18446744073709551616) (i : Int) : group_With.f (m : Int) i = some ((m ||| sb i : Nat) : Int) := by
  unfold group_With.f
  rw [bit_f]
  simp only [Option.bind_some, Option.some.injEq]
  rw [u64_or_nat _ _ hm (sb_lt i)]
theorem without_f (m : Nat) (hm : m < 18446744073709551616) (i : Int) : group_Without.f (m : Int) i = some ((m &&& (18446744073709551615 - sb i) : Nat) : Int) := by
  unfold group_Without.f
  rw [bit_f]
  simp only [Option.bind_some, Option.some.injEq]
  rw [u64_andNot_nat _ _ hm (sb_lt i)]
theorem within_f (a b : Nat) (ha : a < 18446744073709551616) (hb : b < 18446744073709551616) : group_Within.f (a : Int) (b : Int) = some (decide (a &&& (18446744073709551615 - b) = 0)) := by
  unfold group_Within.f
  rw [u64_andNot_nat _ _ ha hb]
  apply congrArg some
  apply Bool.eq_iff_iff.2
  simp

theorem not_bit (b : Nat) (hb : b < 18446744073709551616) (i : Nat) : (18446744073709551615 - b).testBit i = (decide (i < 64) && !b.testBit i) := by
  have e : 18446744073709551615 - b = 2 ^ 64 - (b + 1) := by omega
  rw [e, Nat.testBit_two_pow_sub_succ (by omega)]

theorem high_bit {m i : Nat} (hm : m < 18446744073709551616) (hi : ¬ i < 64) : m.testBit i = false := by
  apply Nat.testBit_lt_two_pow
  calc m < 2 ^ 64 := by omega
    _ ≤ 2 ^ i := Nat.pow_le_pow_right (by decide) (by omega)

/-- the set of a list's numbers -/
def U (l : List Int) : Nat := l.foldl (fun m i => m ||| sb i) 0
theorem U_go (l : List Int) : ∀ m : Nat, (l.foldl (fun m i => m ||| sb i) m) = m ||| U l := by
  induction l with
  | nil => intro m; simp [U]
  | cons x l ih => intro m; simp only [U, List.foldl_cons]; rw [ih, ih (0 ||| sb x)]; simp [Nat.or_assoc]
theorem U_bit (l : List Int) (k : Nat) : (U l).testBit k = decide (k < 64 ∧ (k : Int) ∈ l) := by
  induction l with
  | nil => simp [U]
  | cons x l ih =>
    have : U (x :: l) = sb x ||| U l := by simp only [U, List.foldl_cons]; rw [U_go]; simp [U]
    rw [this, Nat.testBit_or, ih, sb_bit]
    apply Bool.eq_iff_iff.2; simp; constructor
    · rintro (⟨h1, h2⟩ | ⟨h1, h2⟩)
      · exact ⟨h1, .inl h2⟩
      · exact ⟨h1, .inr h2⟩
    · rintro ⟨h1, h2 | h2⟩
      · exact .inl ⟨h1, h2⟩
      · exact .inr ⟨h1, h2⟩
theorem U_lt (l : List Int) : U l < 18446744073709551616 := by
  have : U l < 2 ^ 64 := by
    apply Nat.lt_pow_two_of_testBit
    intro i hi
    rw [U_bit]; simp; omega
  omega
theorem U_of {m : Nat} {l : List Int} (h : ∀ k, m.testBit k = decide (k < 64 ∧ (k : Int) ∈ l)) : m = U l := by
  apply Nat.eq_of_testBit_eq; intro i; rw [h, U_bit]
theorem mem_ints (m : Nat) (k : Int) : k ∈ ints m ↔ hs m k = true := by
  unfold ints hs
  simp only [List.mem_map, bl_mem, Bool.and_eq_true, decide_eq_true_eq]
  constructor
  · rintro ⟨a, ⟨h1, h2⟩, rfl⟩; exact ⟨by omega, by simpa using h2⟩
  · rintro ⟨⟨h1, h2⟩, h3⟩; exact ⟨k.toNat, ⟨by omega, h3⟩, by omega⟩
theorem U_ints (m : Nat) (hm : m < 18446744073709551616) : U (ints m) = m := by
  symm; apply U_of; intro k
  apply Bool.eq_iff_iff.2
  simp only [mem_ints, hs, decide_eq_true_eq, Bool.and_eq_true]
  constructor
  · intro h
    have : k < 64 := by
      apply Classical.byContradiction; intro hk; rw [high_bit hm hk] at h; cases h
    exact ⟨this, by omega, by simpa using h⟩
  · rintro ⟨_, _, h⟩; simpa using h
theorem U_with (m : Nat) (hm : m < 18446744073709551616) (i : Int) : m ||| sb i = U (i :: ints m) := by
  apply U_of; intro k
  rw [Nat.testBit_or, sb_bit]
  apply Bool.eq_iff_iff.2
  have := congrArg (fun x => x.testBit k) (U_ints m hm)
  simp only [U_bit] at this
  rw [← this]
  simp
  constructor
  · rintro (⟨h1, h2⟩ | ⟨h1, h2⟩)
    · exact ⟨h1, .inr h2⟩
    · exact ⟨h1, .inl h2⟩
  · rintro ⟨h1, h2 | h2⟩
    · exact .inr ⟨h1, h2⟩
    · exact .inl ⟨h1, h2⟩
theorem U_without (m : Nat) (hm : m < 18446744073709551616) (i : Int) : m &&& (18446744073709551615 - sb i) = U ((ints m).filter (fun x => decide (x ≠ i))) := by
  apply U_of; intro k
  rw [Nat.testBit_and, not_bit _ (sb_lt i), sb_bit]
  apply Bool.eq_iff_iff.2
  have := congrArg (fun x => x.testBit k) (U_ints m hm)
  simp only [U_bit] at this
  rw [← this]
  simp
  constructor
  · rintro ⟨⟨h1, h2⟩, h3, h4⟩; exact ⟨h1, h2, by omega⟩
  · rintro ⟨h1, h2, h3⟩; exact ⟨⟨h1, h2⟩, h1, .inr h3⟩
/-- all of a in b, as a mask tells it -/
theorem within_all (a b : Nat) (ha : a < 18446744073709551616) (hb : b < 18446744073709551616) : (a &&& (18446744073709551615 - b) = 0) ↔ ∀ x ∈ ints a, hs b x = true := by
  constructor
  · intro h x hx
    rw [mem_ints] at hx
    simp only [hs, Bool.and_eq_true, decide_eq_true_eq] at hx ⊢
    refine ⟨hx.1, ?_⟩
    have := congrArg (fun y => y.testBit x.toNat) h
    simp only [Nat.testBit_and, not_bit b hb, hx.2, Nat.zero_testBit, Bool.true_and] at this
    have h6 : x.toNat < 64 := by omega
    simpa [h6] using this
  · intro h
    apply Nat.eq_of_testBit_eq; intro i
    rw [Nat.testBit_and, not_bit b hb, Nat.zero_testBit]
    by_cases hi : i < 64
    · cases hai : a.testBit i with
      | false => simp
      | true =>
        have := h (i : Int) ((mem_ints a i).2 (by simp [hs, hai]; omega))
        simp only [hs, Bool.and_eq_true, Int.toNat_natCast] at this
        simp [this.2]
    · rw [high_bit ha hi]; simp

/-! ### the reference's functions -/
theorem half (x : Nat) (hx : x < 18446744073709551616) : IntKind.u64.wrap (Int.tdiv (x : Int) 2) = ((x / 2 : Nat) : Int) := by
  rw [IntKind.wrap_u64]
  have : Int.tdiv (x : Int) 2 = ((x / 2 : Nat) : Int) := by rw [Int.tdiv_eq_ediv_of_nonneg (by omega)]; omega
  rw [this]; omega
theorem odd (x : Nat) : Int.tmod (x : Int) 2 = ((x % 2 : Nat) : Int) := by rw [Int.tmod_eq_emod_of_nonneg (by omega)]; omega
theorem bit_of (x i : Nat) : (x / 2 ^ i % 2 = 1) ↔ x.testBit i = true := by rw [Nat.testBit_eq_decide_div_mod_eq]; simp

theorem refHas_l0 (m : Nat) (hm : m < 18446744073709551616) (i : Nat) (hi : i ≤ 63) : ∀ d k, d + k = i → semblanceref16_Has.l0 (d + 1) ((m / 2 ^ k : Nat) : Int) (i : Int) (k : Int) = some (m.testBit i)
  | 0, k, h => by
    obtain rfl : k = i := by omega
    unfold semblanceref16_Has.l0
    rw [if_neg (by omega), odd]
    apply congrArg some
    apply Bool.eq_iff_iff.2
    rw [← bit_of, beq_iff_eq]
    generalize m / 2 ^ k % 2 = c; omega
  | d + 1, k, h => by
    unfold semblanceref16_Has.l0
    rw [if_pos (by omega), half _ (Nat.lt_of_le_of_lt (Nat.div_le_self _ _) hm), wrap_succ (by omega), Nat.div_div_eq_div_mul, ← Nat.pow_succ]
    exact refHas_l0 m hm i hi d (k + 1) (by omega)
theorem refHas_j0 (k : Nat) (x i : Int) (b : Bool) : semblanceref16_Has.j0 (k + 1) x i b = if b = true then some false else semblanceref16_Has.l0 k x i 0 := by rw [semblanceref16_Has.j0]
theorem refHas (m : Nat) (hm : m < 18446744073709551616) (i : Int) : ∃ k, semblanceref16_Has.f k (m : Int) i = some (hs m i) := by
  unfold semblanceref16_Has.f hs
  by_cases h0 : i < 0
  · refine ⟨0 + 1, ?_⟩
    rw [if_pos h0, refHas_j0, if_pos rfl]
    simp; omega
  by_cases h1 : i > 63
  · refine ⟨0 + 1, ?_⟩
    rw [if_neg h0, refHas_j0, if_pos (decide_eq_true h1)]
    simp; omega
  · obtain ⟨n, rfl⟩ : ∃ n : Nat, i = n := ⟨i.toNat, by omega⟩
    refine ⟨n + 1 + 1, ?_⟩
    rw [if_neg h0, refHas_j0, if_neg (by simp; omega)]
    have := refHas_l0 m hm n (by omega) n 0 (by omega)
    simp only [Nat.pow_zero, Nat.div_one] at this
    rw [show ((0 : Nat) : Int) = 0 from rfl] at this
    rw [this]
    have e : decide ((0 : Int) ≤ (n : Int) ∧ (n : Int) ≤ 63) = true := decide_eq_true (by omega)
    rw [e]; simp

theorem refList_l0 (m : Nat) (hm : m < 18446744073709551616) : ∀ d k, d + k = 64 →
    semblanceref16_List.l0 (d + 1) ((m / 2 ^ k : Nat) : Int) (((List.range k).filter (fun i => m.testBit i)).map fun (i : Nat) => (i : Int)) (k : Int) = some (ints m)
  | 0, k, h => by
    obtain rfl : k = 64 := by omega
    unfold semblanceref16_List.l0
    rw [if_neg (by omega)]; unfold ints bl; with_reducible rfl
  | d + 1, k, h => by
    unfold semblanceref16_List.l0
    have ih := refList_l0 m hm d (k + 1) (by omega)
    rw [if_pos (by omega), half _ (Nat.lt_of_le_of_lt (Nat.div_le_self _ _) hm), wrap_succ (by omega), Nat.div_div_eq_div_mul, ← Nat.pow_succ, odd]
    rw [List.range_succ, List.filter_append, List.map_append] at ih
    by_cases hb : m / 2 ^ k % 2 = 1
    · rw [if_pos (by rw [hb]; rfl)]
      have hl : (((List.range k).filter (fun i => m.testBit i)).map fun (i : Nat) => (i : Int)).length < 17592186044416 := by
        have := List.length_filter_le (fun i => m.testBit i) (List.range k)
        simp at this ⊢; omega
      rw [if_pos hl]
      simpa [(bit_of m k).1 hb] using ih
    · rw [if_neg (by omega)]
      have hb' : m.testBit k = false := by cases h' : m.testBit k with
        | false => rfl
        | true => exact absurd ((bit_of m k).2 h') hb
      simpa [hb'] using ih
theorem refList (m : Nat) (hm : m < 18446744073709551616) : ∃ k, semblanceref16_List.f k (m : Int) = some (ints m) := by
  refine ⟨64 + 1, ?_⟩
  have := refList_l0 m hm 64 0 (by omega)
  rw [Nat.pow_zero, Nat.div_one, List.range_zero, List.filter_nil, List.map_nil] at this
  unfold semblanceref16_List.f
  exact this

theorem rd_at {l : List Int} {n : Nat} (h : n < l.length) : rd l (n : Int) = l[n] := by simp [rd, h]

theorem or_lt64 {a b : Nat} (ha : a < 18446744073709551616) (hb : b < 18446744073709551616) : a ||| b < 18446744073709551616 := by
  have := @Nat.or_lt_two_pow a b 64 (by omega) (by omega)
  omega
theorem of_end (k : Nat) (m : Int) (l : List Int) : group_Of.l0 (k + 1) m l (l.length : Int) (l.length : Int) = some m := by
  rw [group_Of.l0, if_neg (by omega)]
theorem of_step (k n m : Nat) (l : List Int) (hl : l.length ≤ 9223372036854775807) (hn : n < l.length) (hm : m < 18446744073709551616) :
    group_Of.l0 (k + 1) (m : Int) l (l.length : Int) (n : Int) = group_Of.l0 k ((m ||| sb (l[n]) : Nat) : Int) l (l.length : Int) ((n + 1 : Nat) : Int) := by
  have h1 : (n : Int) < (l.length : Int) := by omega
  have h2 : (0 : Int) ≤ (n : Int) := by omega
  rw [group_Of.l0, if_pos h1, if_pos h2, if_pos h1, bit_f, rd_at hn, Option.bind_some, u64_or_nat _ _ hm (sb_lt _), wrap_succ (Nat.lt_of_lt_of_le hn hl)]
theorem of_l0 (l : List Int) (hl : l.length ≤ 9223372036854775807) (d : Nat) : ∀ n (m : Nat), d + n = l.length → m < 18446744073709551616 →
    group_Of.l0 (d + 1) (m : Int) l (l.length : Int) (n : Int) = some (((l.drop n).foldl (fun m i => m ||| sb i) m : Nat) : Int) := by
  induction d with
  | zero =>
    intro n m h hm
    obtain rfl : n = l.length := by omega
    rw [of_end, List.drop_length, List.foldl_nil]
  | succ d ih =>
    intro n m h hm
    have hn : n < l.length := by omega
    rw [of_step _ _ _ _ hl hn hm, ih (n + 1) _ (by omega) (or_lt64 hm (sb_lt _)), List.drop_eq_getElem_cons hn, List.foldl_cons]
theorem of_f (l : List Int) (hl : l.length ≤ 9223372036854775807) : ∃ k, group_Of.f k l = some ((U l : Nat) : Int) := by
  refine ⟨l.length + 1, ?_⟩
  have := of_l0 l hl l.length 0 0 (by omega) (by decide)
  simpa [group_Of.f, U] using this

theorem same_l0 (l : List Int) (hl : l.length ≤ 9223372036854775807) : ∀ d n, d + n = l.length → semblanceref01_Same.l0 (d + 1) l l (n : Int) = some true
  | 0, n, h => by
    unfold semblanceref01_Same.l0
    rw [if_neg (by omega)]
  | d + 1, n, h => by
    unfold semblanceref01_Same.l0
    rw [if_pos (by omega), if_pos (by omega), if_pos (by omega), if_pos rfl, wrap_succ (by omega)]
    exact same_l0 l hl d (n + 1) (by omega)
theorem same_f (l : List Int) (hl : l.length ≤ 9223372036854775807) : ∃ k, semblanceref01_Same.f k l l = some true := by
  refine ⟨l.length + 1, ?_⟩
  unfold semblanceref01_Same.f
  rw [if_pos rfl]
  exact same_l0 l hl l.length 0 (by omega)
end Go.Proofs.YtjlegibfeenglaaDoor
