import Derived.Test.YtoeioigpkfgppaaXBytes
import Derived.Test.YtoeioigpkfgppaaXFind
import Derived.Test.YtoeioigpkfgppaaXFuel
import Derived.Test.YtoeioigpkfgppaaXNamesPlain
import Derived.Test.YtoeioigpkfgppaaXTermPlain
import Derived.Test.YtoeioigpkfgppaaXVlnames
import Derived.Test.YtoeioigpkfgppaaXVlterm
import Derived.Test.YtoeioigpkfgppaaXVltermcheck
import Derived.Test.YtoeioigpkfgppaaXVltermfold
import Derived.Test.YtoeioigpkfgppaaXVo
import Derived.Test.YtoeioigpkfgppaaXVp5
import Derived.Test.YtoeioigpkfgppaaXVp6
import Derived.Test.YtoeioigpkfgppaaXVp8
import Derived.Test.YtoeioigpkfgppaaXVp9
namespace Go.Proofs.Ytoeioigpkfgppaa.XV
open Go.RowKit Go.Proofs.Ytoeioigpkfgppaa.XRead Go.Proofs.Ytoeioigpkfgppaa.XV Go.Proofs.YtoeioigpkfgppaaW.PrintWords Go.Proofs.YtoeioigpkfgppaaW.PrintLast Go.Proofs.YtoeioigpkfgppaaW.PrintMore
open Go.Proofs.Ytoeioigpkfgppaa.TermPlain Go.Proofs.Ytoeioigpkfgppaa.XFuel Go.Proofs.Ytoeioigpkfgppaa.XFind
set_option linter.unusedVariables false
set_option linter.unusedSimpArgs false
/-! ### what an expression comes to -/
structure EnvT where
  vs : List (S51)
  c1 : Int
  c2 : Int
  c3 : Int
  c4 : Int
  ins : List ByteArray
def hitE (s x : ByteArray) : Bool := x.toList == s.toList
def hitV (s : ByteArray) (x : S51) : Bool := x.f0.toList == s.toList
theorem insP_ref (xs : List ByteArray) (s : ByteArray) (hx : xs.length ≤ 100000) : ∀ (d n : Nat), xs.length - n = d → n ≤ xs.length → (∀ j : Nat, j < n → hitE s (xs.getD j ByteArray.empty) = false) →
    Ev (fun k => semblanceref02_Place.l0 k xs s n) (idxF (hitE s) xs) := by
  intro d
  induction d with
  | zero =>
    intro n hd hn hp
    have h1 : ¬ ((n : Int) < (xs.length : Int)) := by omega
    rw [idxF_miss (hitE s) xs ByteArray.empty (fun j hj => hp j (by omega))]
    apply Ev.succ
    simp only [semblanceref02_Place.l0, h1, if_false]
    exact Ev.now _
  | succ d ih =>
    intro n hd hn hp
    have h1 : (n : Int) < (xs.length : Int) := by omega
    have h2 : (0 : Int) ≤ (n : Int) := by omega
    have hr : rdOf ByteArray.empty xs (n : Int) = xs.getD n ByteArray.empty := by simp [rdOf]
    by_cases h : (xs.getD n ByteArray.empty).toList = s.toList
    · have hh : hitE s (xs.getD n ByteArray.empty) = true := beq_iff_eq.2 h
      rw [idxF_hit (hitE s) xs ByteArray.empty n (by omega) hh hp]
      apply Ev.succ
      simp only [semblanceref02_Place.l0, h1, h2, hr, h, if_true]
      exact Ev.now _
    · have hh : hitE s (xs.getD n ByteArray.empty) = false := beq_eq_false_iff_ne.2 h
      apply Ev.succ
      simp only [semblanceref02_Place.l0, h1, h2, hr, h, if_true, if_false]
      rw [wrap_succ (by omega)]
      exact ih (n + 1) (by omega) (by omega) (fun j hj => by
        by_cases e : j = n
        · subst e; exact hh
        · exact hp j (by omega))
theorem insP_prog (xs : List ByteArray) (s : ByteArray) (hx : xs.length ≤ 100000) : ∀ (d n : Nat), xs.length - n = d → n ≤ xs.length → (∀ j : Nat, j < n → hitE s (xs.getD j ByteArray.empty) = false) →
    Ev (fun k => slices_Index_string_string.l0 k xs s (xs.length : Int) n) (idxF (hitE s) xs) := by
  intro d
  induction d with
  | zero =>
    intro n hd hn hp
    have h1 : ¬ ((n : Int) < (xs.length : Int)) := by omega
    rw [idxF_miss (hitE s) xs ByteArray.empty (fun j hj => hp j (by omega))]
    apply Ev.succ
    simp only [slices_Index_string_string.l0, h1, if_false]
    exact Ev.now _
  | succ d ih =>
    intro n hd hn hp
    have h1 : (n : Int) < (xs.length : Int) := by omega
    have h2 : (0 : Int) ≤ (n : Int) := by omega
    have hr : rdOf ByteArray.empty xs (n : Int) = xs.getD n ByteArray.empty := by simp [rdOf]
    by_cases h : s.toList = (xs.getD n ByteArray.empty).toList
    · have hh : hitE s (xs.getD n ByteArray.empty) = true := beq_iff_eq.2 h.symm
      rw [idxF_hit (hitE s) xs ByteArray.empty n (by omega) hh hp]
      apply Ev.succ
      simp only [slices_Index_string_string.l0, h1, h2, hr, if_true]
      exact Ev.congr (fun k => if_pos h) (Ev.now _)
    · have hh : hitE s (xs.getD n ByteArray.empty) = false := beq_eq_false_iff_ne.2 (fun e => h e.symm)
      apply Ev.succ
      simp only [slices_Index_string_string.l0, h1, h2, hr, h, if_true, if_false]
      rw [wrap_succ (by omega)]
      exact ih (n + 1) (by omega) (by omega) (fun j hj => by
        by_cases e : j = n
        · subst e; exact hh
        · exact hp j (by omega))
theorem ins_ref (xs : List ByteArray) (s : ByteArray) (hx : xs.length ≤ 100000) : Ev (fun k => semblanceref02_Place.f k xs s) (idxF (hitE s) xs) :=
  insP_ref xs s hx xs.length 0 (by omega) (by omega) (fun j hj => absurd hj (by omega))
theorem ins_prog (xs : List ByteArray) (s : ByteArray) (hx : xs.length ≤ 100000) : Ev (fun k => names_Place.f k xs s) (idxF (hitE s) xs) := by
  unfold names_Place.f slices_Index_string_string.f
  exact Ev.bind (insP_prog xs s hx xs.length 0 (by omega) (by omega) (fun j hj => absurd hj (by omega))) (Ev.now _)
theorem varP_ref (e : EnvT) (s : ByteArray) (hx : e.vs.length ≤ 1000) : ∀ (d n : Nat), e.vs.length - n = d → n ≤ e.vs.length → (∀ j : Nat, j < n → hitV s (e.vs.getD j z51) = false) →
    Ev (fun k => semblanceref07_Place.l0 k s n e.vs e.c1 e.c2 e.c3 e.c4 e.ins) (idxF (hitV s) e.vs) := by
  intro d
  induction d with
  | zero =>
    intro n hd hn hp
    have h1 : ¬ ((n : Int) < (e.vs.length : Int)) := by omega
    rw [idxF_miss (hitV s) e.vs z51 (fun j hj => hp j (by omega))]
    apply Ev.succ
    simp only [semblanceref07_Place.l0, h1, if_false]
    exact Ev.now _
  | succ d ih =>
    intro n hd hn hp
    have h1 : (n : Int) < (e.vs.length : Int) := by omega
    have h2 : (0 : Int) ≤ (n : Int) := by omega
    have hr : rd_T51 e.vs (n : Int) = e.vs.getD n z51 := by simp [rd_T51]
    by_cases h : (e.vs.getD n z51).f0.toList = s.toList
    · have hh : hitV s (e.vs.getD n z51) = true := beq_iff_eq.2 h
      rw [idxF_hit (hitV s) e.vs z51 n (by omega) hh hp]
      apply Ev.succ
      simp only [semblanceref07_Place.l0, h1, h2, hr, h, if_true]
      exact Ev.now _
    · have hh : hitV s (e.vs.getD n z51) = false := beq_eq_false_iff_ne.2 h
      apply Ev.succ
      simp only [semblanceref07_Place.l0, h1, h2, hr, h, if_true, if_false]
      rw [wrap_succ (by omega)]
      exact ih (n + 1) (by omega) (by omega) (fun j hj => by
        by_cases e : j = n
        · subst e; exact hh
        · exact hp j (by omega))
def plc (e : EnvT) (s : ByteArray) : Int := idxF (hitV s) e.vs
theorem plc_lt (e : EnvT) (s : ByteArray) : -1 ≤ plc e s ∧ plc e s < e.vs.length ∨ plc e s = -1 := by
  unfold plc idxF
  cases h : e.vs.findIdx? (hitV s) with
  | none => right; rfl
  | some i =>
    rw [List.findIdx?_eq_some_iff_getElem] at h
    obtain ⟨hi, _⟩ := h
    left
    constructor
    · show (-1 : Int) ≤ (i : Int); omega
    · show (i : Int) < _; omega
theorem var_ref (e : EnvT) (s : ByteArray) (hx : e.vs.length ≤ 1000) : Ev (fun k => semblanceref07_Place.f k e.vs e.c1 e.c2 e.c3 e.c4 e.ins s) (plc e s) :=
  varP_ref e s hx e.vs.length 0 (by omega) (by omega) (fun j hj => absurd hj (by omega))

def near (x : Int) : Int := if x > 1000000 then 1000000 else if x < -1000000 then -1000000 else x
theorem near_le (x : Int) : -1000000 ≤ near x ∧ near x ≤ 1000000 := by unfold near; split <;> (try split) <;> omega
theorem near_in {x : Int} (h : -1000000 ≤ x ∧ x ≤ 1000000) : near x = x := by unfold near; rw [if_neg (by omega), if_neg (by omega)]
theorem near_prog (x : Int) : val_Near.f x = some (near x) := by
  unfold val_Near.f val_Clamp.f near
  by_cases h1 : x < -1000000
  · rw [if_pos h1, if_neg (by omega), if_pos h1]; rfl
  · rw [if_neg h1, if_neg h1]
    by_cases h2 : x > 1000000
    · rw [if_pos h2, if_pos h2]; rfl
    · rw [if_neg h2, if_neg h2]; rfl
theorem near_ref (x : Int) : semblanceref01_Near.f x = some (near x) := by
  unfold semblanceref01_Near.f near
  split
  · rfl
  · split <;> rfl
def b01 (b : Bool) : Int := if b = true then 1 else 0
theorem bit_prog (b : Bool) : eval_bit.f b = some (b01 b) := by unfold eval_bit.f b01; cases b <;> rfl
theorem is7_ref (b : Bool) : semblanceref07_is.f b = some (b01 b) := by unfold semblanceref07_is.f b01; cases b <;> rfl
theorem b01_is (b : Bool) : b01 b = 0 ∨ b01 b = 1 := by cases b <;> simp [b01]
def vv (e : EnvT) (i : Int) : Int := if i = 0 then e.c1 else if i = 1 then e.c2 else if i = 2 then e.c3 else e.c4
/-- of a term, and of what the two below it come to -/
def TA (e : EnvT) (op n : Int) (s : ByteArray) (x y : Int) : Int :=
  if op = 1 then n else if op = 2 then near (vv e (plc e s)) else if op = 3 then -x else if op = 4 then near (x + y) else if op = 5 then near (x - y) else if op = 6 then near (x * y)
  else if op = 7 then (if x < y then x else y) else if op = 8 then (if x > y then x else y) else if op = 9 then 1 else if op = 10 then 0 else if op = 11 then b01 (decide (idxF (hitE s) e.ins ≥ 0))
  else if op = 12 then b01 (x == 0) else if op = 13 then b01 (x == y) else if op = 14 then b01 (x != y) else if op = 15 then b01 (decide (x < y)) else if op = 16 then b01 (decide (x ≤ y))
  else if op = 17 then b01 (decide (x > y)) else if op = 18 then b01 (decide (x ≥ y)) else if op = 19 then b01 (x == 1 && y == 1) else b01 (x == 1 || y == 1)
def In6 (x : Int) : Prop := -1000000 ≤ x ∧ x ≤ 1000000
theorem mul_in {x y : Int} (hx : In6 x) (hy : In6 y) : -1000000000000 ≤ x * y ∧ x * y ≤ 1000000000000 := by
  unfold In6 at *
  have h1 : x.natAbs ≤ 1000000 := by omega
  have h2 : y.natAbs ≤ 1000000 := by omega
  have h3 := Nat.mul_le_mul h1 h2
  rw [← Int.natAbs_mul] at h3
  omega
theorem ops {op : Int} (h : 1 ≤ op ∧ op ≤ 20) : op = 1 ∨ op = 2 ∨ op = 3 ∨ op = 4 ∨ op = 5 ∨ op = 6 ∨ op = 7 ∨ op = 8 ∨ op = 9 ∨ op = 10 ∨ op = 11 ∨ op = 12 ∨ op = 13 ∨ op = 14 ∨ op = 15 ∨ op = 16 ∨ op = 17 ∨ op = 18 ∨ op = 19 ∨ op = 20 := by omega
theorem TA_in (e : EnvT) {op n : Int} (s : ByteArray) {x y : Int} (ho : 1 ≤ op ∧ op ≤ 20) (hn : op = 1 → In6 n) (hx : In6 x) (hy : In6 y) : In6 (TA e op n s x y) := by
  have hb : ∀ b, In6 (b01 b) := fun b => by unfold In6; rcases b01_is b with h | h <;> omega
  have hnear : ∀ z, In6 (near z) := fun z => near_le z
  rcases ops ho with rfl | rfl | rfl | rfl | rfl | rfl | rfl | rfl | rfl | rfl | rfl | rfl | rfl | rfl | rfl | rfl | rfl | rfl | rfl | rfl <;> simp only [TA, Int.reduceEq, if_true, if_false]
  · exact hn rfl
  · exact hnear _
  · unfold In6 at *; omega
  · exact hnear _
  · exact hnear _
  · exact hnear _
  · split <;> assumption
  · split <;> assumption
  · unfold In6; omega
  · unfold In6; omega
  all_goals exact hb _
theorem four_ev (e : EnvT) {i : Int} (h : 0 ≤ i ∧ i < 4) : arr4 e.c1 e.c2 e.c3 e.c4 i = some (vv e i) := by
  unfold arr4 vv
  split
  · rfl
  split
  · rfl
  split
  · rfl
  rw [if_pos (by omega)]
theorem j1_ref (e : EnvT) {op n : Int} (s : ByteArray) {x y : Int} (ho : 1 ≤ op ∧ op ≤ 20) (hx : In6 x) (hy : In6 y) (hv : e.vs.length ≤ 4) (hi : e.ins.length ≤ 100000) (hp : op = 2 → 0 ≤ plc e s) :
    Ev (fun k => semblanceref07_At.j1 k x y e.vs e.c1 e.c2 e.c3 e.c4 e.ins op n s) (TA e op n s x y) := by
  have hm := mul_in hx hy
  unfold In6 at hx hy
  apply Ev.succ
  rcases ops ho with rfl | rfl | rfl | rfl | rfl | rfl | rfl | rfl | rfl | rfl | rfl | rfl | rfl | rfl | rfl | rfl | rfl | rfl | rfl | rfl <;> simp only [semblanceref07_At.j1, TA, Int.reduceEq, if_true, if_false, near_ref, is7_ref, Option.bind_some]
  · exact Ev.now _
  · refine Ev.bind (var_ref e s (by omega)) ?_
    have h0 := hp rfl
    have h1 : plc e s < 4 := by rcases plc_lt e s with h | h <;> omega
    simp only [four_ev e ⟨h0, h1⟩, Option.bind_some]
    exact Ev.now _
  · rw [wrap_in (by omega) (by omega)]; exact Ev.now _
  · rw [wrap_in (by omega) (by omega)]; exact Ev.now _
  · rw [wrap_in (by omega) (by omega)]; exact Ev.now _
  · rw [wrap_in (by omega) (by omega)]; exact Ev.now _
  · refine Ev.const ?_; split <;> rfl
  · refine Ev.const ?_; split <;> rfl
  · exact Ev.now _
  · exact Ev.now _
  · exact Ev.bind (ins_ref e.ins s hi) (Ev.now _)
  · exact Ev.now _
  · exact Ev.now _
  · exact Ev.now _
  · exact Ev.now _
  · exact Ev.now _
  · exact Ev.now _
  · exact Ev.now _
  · refine Ev.const ?_
    by_cases h : x = 1
    · rw [if_pos h, h]; simp
    · rw [if_neg h]; have : (x == 1) = false := by simp [h]
      simp [this]
  · refine Ev.const ?_
    by_cases h : x = 1
    · rw [if_pos h, h]; simp
    · rw [if_neg h]; have : (x == 1) = false := by simp [h]
      simp [this]
/-! ### the program's own -/
theorem leaf_prog (e : EnvT) {op n : Int} (s : ByteArray) (x y : Int) (ho : op = 1 ∨ op = 2 ∨ op = 9 ∨ op = 10 ∨ op = 11) (hv : e.vs.length ≤ 4) (hi : e.ins.length ≤ 100000) (hp : op = 2 → 0 ≤ plc e s) :
    Ev (fun k => eval_leaf.f k op n s e.vs e.c1 e.c2 e.c3 e.c4 e.ins) (TA e op n s x y) := by
  rcases ho with rfl | rfl | rfl | rfl | rfl <;> simp only [eval_leaf.f, TA, Int.reduceEq, if_true, if_false]
  · exact Ev.now _
  · have h0 := hp rfl
    have h1 : plc e s < 4 := by rcases plc_lt e s with h | h <;> omega
    refine Ev.const ?_
    show (if plc e s = 0 then val_Near.f e.c1 else if plc e s = 1 then val_Near.f e.c2 else if plc e s = 2 then val_Near.f e.c3 else if plc e s = 3 then val_Near.f e.c4 else none) = _
    unfold vv
    simp only [near_prog]
    split
    · rfl
    split
    · rfl
    split
    · rfl
    rw [if_pos (by omega)]
  · exact Ev.const (bit_prog _)
  · exact Ev.const (bit_prog _)
  · exact Ev.bind (ins_prog e.ins s hi) (Ev.const (bit_prog _))
theorem two_prog (e : EnvT) {op : Int} (n : Int) (s : ByteArray) {x y : Int} (ho : 4 ≤ op ∧ op ≤ 8 ∨ 13 ≤ op ∧ op ≤ 20) (hx : In6 x) (hy : In6 y) (hb : 19 ≤ op → (x = 0 ∨ x = 1) ∧ (y = 0 ∨ y = 1)) :
    Ev (fun k => eval_two.f k op x y) (TA e op n s x y) := by
  have hm := mul_in hx hy
  have nx := near_in hx
  have ny := near_in hy
  unfold In6 at hx hy
  have ho' : op = 4 ∨ op = 5 ∨ op = 6 ∨ op = 7 ∨ op = 8 ∨ op = 13 ∨ op = 14 ∨ op = 15 ∨ op = 16 ∨ op = 17 ∨ op = 18 ∨ op = 19 ∨ op = 20 := by omega
  rcases ho' with rfl | rfl | rfl | rfl | rfl | rfl | rfl | rfl | rfl | rfl | rfl | rfl | rfl
  · refine Ev.const ?_
    simp only [eval_two.f, val_Plus.f, TA, Int.reduceEq, if_true, if_false, near_prog, Option.bind_some, nx, ny]
    rw [wrap_in (by omega) (by omega)]
  · refine Ev.const ?_
    simp only [eval_two.f, val_Minus.f, TA, Int.reduceEq, if_true, if_false, near_prog, Option.bind_some, nx, ny]
    rw [wrap_in (by omega) (by omega)]
  · refine Ev.const ?_
    simp only [eval_two.f, val_Times.f, TA, Int.reduceEq, if_true, if_false, near_prog, Option.bind_some, nx, ny]
    rw [wrap_in (by omega) (by omega)]
  all_goals simp only [eval_two.f, Int.reduceEq, if_true, if_false, Int.reduceBEq]; apply Ev.succ
  all_goals simp only [eval_two.j0, Int.reduceEq, if_true, if_false, Int.reduceBEq, Bool.false_eq_true]
  · refine Ev.const ?_
    simp only [TA, Int.reduceEq, if_true, if_false]
    show some (if y < x then y else x) = _
    congr 1
    repeat' split
    all_goals omega
  · apply Ev.succ
    simp only [eval_two.j1, if_true]
    refine Ev.const ?_
    simp only [TA, Int.reduceEq, if_true, if_false]
    show some (if x < y then y else x) = _
    congr 1
    repeat' split
    all_goals omega
  · apply Ev.succ
    simp only [eval_two.j1, if_true, if_false, Int.reduceEq, Bool.false_eq_true, bit_prog, Option.bind_some, TA]
    exact Ev.now _
  · apply Ev.succ
    simp only [eval_two.j1, if_true, if_false, Int.reduceEq, Bool.false_eq_true, bit_prog, Option.bind_some, TA]
    exact Ev.now _
  · apply Ev.succ
    simp only [eval_two.j1, if_true, if_false, Int.reduceEq, Bool.false_eq_true, bit_prog, Option.bind_some, TA]
    exact Ev.now _
  · apply Ev.succ
    simp only [eval_two.j1, if_true, if_false, Int.reduceEq, Bool.false_eq_true, bit_prog, Option.bind_some, TA]
    exact Ev.now _
  · apply Ev.succ
    simp only [eval_two.j1, if_true, if_false, Int.reduceEq, Bool.false_eq_true, bit_prog, Option.bind_some, TA]
    exact Ev.now _
  · apply Ev.succ
    simp only [eval_two.j1, if_true, if_false, Int.reduceEq, Bool.false_eq_true, bit_prog, Option.bind_some, TA]
    exact Ev.now _
  · refine Ev.const ?_
    simp only [TA, Int.reduceEq, if_true, if_false]
    show some (if y < x then y else x) = _
    obtain ⟨rfl | rfl, rfl | rfl⟩ := hb (by decide) <;> rfl
  · apply Ev.succ
    simp only [eval_two.j1, if_true]
    refine Ev.const ?_
    simp only [TA, Int.reduceEq, if_true, if_false]
    show some (if x < y then y else x) = _
    obtain ⟨rfl | rfl, rfl | rfl⟩ := hb (by decide) <;> rfl

end Go.Proofs.Ytoeioigpkfgppaa.XV
