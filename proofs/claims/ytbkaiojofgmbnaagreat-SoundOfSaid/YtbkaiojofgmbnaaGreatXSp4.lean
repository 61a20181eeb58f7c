-- written by wip/xprint.py out of the translation
import Derived.Test.YtbkaiojofgmbnaaGreatXShort
import Derived.Test.YtbkaiojofgmbnaaGreatXSp0
import Derived.Test.YtbkaiojofgmbnaaGreatXSp3
namespace Go.Proofs.YtbkaiojofgmbnaaGreat.XS
open Go.Proofs.YtbkaiojofgmbnaaGreat.XShort Go.Proofs.YtbkaiojofgmbnaaGreat.XReg Go.Proofs.YtbkaiojofgmbnaaGreat.XGrow Go.RowKit Go.Proofs.YtbkaiojofgmbnaaGreatW.PrintWords Go.Proofs.YtbkaiojofgmbnaaGreatW.PrintLast Go.Proofs.YtbkaiojofgmbnaaGreatW.PrintMore
attribute [local go_sem] max2_int min2_int max_two min_two max_three min_three max_four min_four   -- for this text's walks alone
set_option linter.unusedVariables false
set_option linter.unusedSimpArgs false

/-! ### semblanceref10_Check: function 29 -/
def semblanceref10_Check.l0 : Nat → List (S46) → Int → Option (Int)
  | 0, _, _ => none
  | k + 1, x0, x3 => if x3 < (x0.length : Int) then ((semblanceref10_Above.f k x0 x3).bind fun t128 => (if (t128.length : Int) > 11 then (some 6) else (semblanceref10_Check.l0 k x0 (wrap64 (x3 + 1))))) else (some 0)
def semblanceref10_Check.f (k : Nat) (l0 : List (S46)) : Option (Int) := if (l0.length : Int) > 60 then (some 8) else ((semblanceref10_may.f k l0).bind fun t127 => (if t127 = true then (semblanceref10_Check.l0 k l0 0) else (some 1)))
theorem semblanceref10_Check.mono_l : ∀ k, (∀ y0 y1, LeO (semblanceref10_Check.l0 k y0 y1) (semblanceref10_Check.l0 (k + 1) y0 y1))
  | 0 => fun _ _ r h => by simp [semblanceref10_Check.l0] at h
  | k + 1 => by
    have ih0 := semblanceref10_Check.mono_l k
    · intro y0 y1
      unfold semblanceref10_Check.l0
      exact mo_
theorem semblanceref10_Check.mono : ∀ a0 k, LeO (semblanceref10_Check.f k a0) (semblanceref10_Check.f (k + 1) a0) := by
  intro a0 k
  have ih0 := semblanceref10_Check.mono_l k
  unfold semblanceref10_Check.f
  exact mo_
instance semblanceref10_Check.lc : ∀ a0 k, LeC (semblanceref10_Check.f k a0) (semblanceref10_Check.f (k + 1) a0) := fun a0 k => ⟨semblanceref10_Check.mono a0 k⟩
set_option maxHeartbeats 8000000 in
set_option maxRecDepth 100000 in
theorem semblanceref10_Check.calls (k : Nat) (A0 : Option Addr) (c0 : Nat) (l0 : List (S46)) (r : Int) (w : World) (hr0 : Kd.C k46 w A0 l0.length l0) (hc0 : l0.length ≤ c0) (h : semblanceref10_Check.f k l0 = some r) :
  Calls Tryz.prog 29 #[.slice A0 l0.length c0] w fun e w' => e = .returned (.int .i64 r) ∧ Below w.heap.size w w' := by
 have HR0 := Aside0.mk hr0
 have HC0 := Aside0.mk hc0
 clear hr0 hc0
 have HB := Aside0.mk (Below.refl w.heap.size w)
 unfold semblanceref10_Check.f at h
 have H := h
 clear h
 replace H := id_ H; obtain ⟨c2, H⟩ | ⟨c2, H⟩ := H
 ·have c2b0 : decide (60 < (l0.length : Int)) = true := decide_eq_true c2
  have c2b1 : decide (60 < l0.length) = true := decide_eq_true (by omega)
  clear c2
  obtain rfl := Option.some.inj H
  go_enter Tryz.func29, Tryz.ntmps29
  go_wp2
  go_ret
  exact ⟨rv_, bw_⟩
 have c2b0 : decide (60 < (l0.length : Int)) = false := decide_eq_false c2
 have c2b1 : decide (60 < l0.length) = false := decide_eq_false (by omega)
 clear c2
 replace H := bi_ H; obtain ⟨t127, A3, H⟩ := H
 replace H := ib_ H; obtain ⟨rfl, H⟩ | ⟨rfl, H⟩ := H
 ·obtain rfl := Option.some.inj H
  go_enter Tryz.func29, Tryz.ntmps29
  go_wp2_with (first | ((with_reducible refine gate_callee (f := 61) rfl ?_); refine gl_ (some 8) Tryz.func61 #[.slice A0 l0.length c0] ?_; (with_reducible refine cm_ (semblanceref10_may.calls k _ _ l0 false _ (kg_ HR0.out) HC0.out A3.out) ?_); intro w13 hb; refine ⟨_, rfl, ?_⟩; replace HB := ts_ HB hb; clear hb))
  go_ret
  exact ⟨rv_, bw_⟩

 have H' := Aside0.mk H
 clear H
 go_enter Tryz.func29, Tryz.ntmps29
 go_wp2_with (first | ((with_reducible refine gate_callee (f := 61) rfl ?_); refine gl_ (some 8) Tryz.func61 #[.slice A0 l0.length c0] ?_; (with_reducible refine cm_ (semblanceref10_may.calls k _ _ l0 true _ (kg_ HR0.out) HC0.out A3.out) ?_); intro w5 hb; refine ⟨_, rfl, ?_⟩; replace HB := ts_ HB hb; clear hb))
 go_loopg [3] k (fun kq v3 w' => ∃ (x3_1 : Int), v3 = .int .i64 x3_1 ∧ Aside0 (semblanceref10_Check.l0 kq l0 x3_1 = some r) ∧ Aside0 (kq ≤ k) ∧ Aside0 (Below w.heap.size w w'))
 case atStart => exact ⟨(0), rl_, H', ⟨Nat.le_refl _⟩, ⟨bw_⟩⟩
 case round =>
  clear H'
  try clear c2b0
  try clear c2b1
  try clear c4
  obtain ⟨x3_1, rfl, HA, HK1, HB⟩ := hrel
  cases gk with
  | zero => exact absurd HA.out (by simp [semblanceref10_Check.l0])
  | succ k1 =>
   have H := HA.out
   clear HA
   simp only [semblanceref10_Check.l0] at H
   replace H := it_ H; obtain ⟨c6b0, H⟩ | ⟨c6b0, H⟩ := H
   ·obtain rfl := Option.some.inj H
    go_wp2
    go_ret
    exact ⟨rv_, bw_⟩
   replace H := bi_ H; obtain ⟨t128, A7, H⟩ := H
   replace H := id_ H; obtain ⟨c8, H⟩ | ⟨c8, H⟩ := H
   ·have c8b0 : decide (11 < (t128.length : Int)) = true := decide_eq_true c8
    have c8b1 : decide (11 < t128.length) = true := decide_eq_true (by omega)
    clear c8
    obtain rfl := Option.some.inj H
    go_wp2_with (first | ((with_reducible refine gate_callee (f := 62) rfl ?_); refine gl_ (some 18) Tryz.func62 #[.slice A0 l0.length c0, .int .i64 x3_1] ?_; (with_reducible refine (semblanceref10_Above.calls k1 _ _ l0 x3_1 t128 _ (kc_ HR0 HB) HC0.out A7.out).mono ?_); rintro e w9 ⟨v129, rfl, ho0, hb⟩; have hB_ := bu_ HB hb; refine ⟨_, rfl, ?_⟩; have HO130 := Aside0.mk (Kd.R_lower ho0 (below_size hB_)); replace HB := Aside0.mk (below_step hB_ hb); clear hb; (try clear ho0); obtain ⟨Ao10, co10, eo10⟩ := Kd.R_slice HO130.out; subst eo10))
    go_ret
    exact ⟨rv_, bw_⟩
   have c8b0 : decide (11 < (t128.length : Int)) = false := decide_eq_false c8
   have c8b1 : decide (11 < t128.length) = false := decide_eq_false (by omega)
   clear c8
   have H' := Aside0.mk H
   clear H
   go_wp2_with (first | ((with_reducible refine gate_callee (f := 62) rfl ?_); refine gl_ (some 18) Tryz.func62 #[.slice A0 l0.length c0, .int .i64 x3_1] ?_; (with_reducible refine (semblanceref10_Above.calls k1 _ _ l0 x3_1 t128 _ (kc_ HR0 HB) HC0.out A7.out).mono ?_); rintro e w11 ⟨v129, rfl, ho0, hb⟩; have hB_ := bu_ HB hb; refine ⟨_, rfl, ?_⟩; have HO130 := Aside0.mk (Kd.R_lower ho0 (below_size hB_)); replace HB := Aside0.mk (below_step hB_ hb); clear hb; (try clear ho0); obtain ⟨Ao12, co12, eo12⟩ := Kd.R_slice HO130.out; subst eo12))
   go_roundg k1
   case measure => have := HK1.out; omega
   case rel => exact ⟨(wrap64 (x3_1 + 1)), rl_, H', ⟨kn_ HK1⟩, ⟨bw_⟩⟩
/-! ### semblanceref12_small: function 30 -/
/-- do all of a list answer true? Each of them must answer -/
def allO {α : Type} (l : List α) (g : α → Option Bool) : Option Bool := if (l.all fun x => (g x).isSome) = true then some (l.all fun x => (g x).getD false) else none
theorem allO_mono {α : Type} {l : List α} {g g' : α → Option Bool} (h : ∀ x, LeO (g x) (g' x)) : LeO (allO l g) (allO l g') := by
  intro r hr
  unfold allO at hr ⊢
  split at hr
  case isFalse => cases hr
  case isTrue hall =>
    have h1 := List.all_eq_true.1 hall
    have h2 : ∀ x ∈ l, g' x = g x := fun x hx => by
      obtain ⟨v, hv⟩ := Option.isSome_iff_exists.1 (h1 x hx)
      rw [hv]
      exact h x v hv
    rw [if_pos (List.all_eq_true.2 fun x hx => by rw [h2 x hx]; exact h1 x hx), ← hr]
    congr 1
    refine Bool.eq_iff_iff.2 ?_
    simp only [List.all_eq_true]
    exact ⟨fun h3 x hx => by rw [← h2 x hx]; exact h3 x hx, fun h3 x hx => by rw [h2 x hx]; exact h3 x hx⟩
theorem allO_get {α : Type} {l : List α} {g : α → Option Bool} {r : Bool} (h : allO l g = some r) (z : α) (i : Nat) (hi : i < l.length) : ∃ v, g (l.getD i z) = some v ∧ (v = false → r = false) := by
  unfold allO at h
  split at h
  case isFalse => cases h
  case isTrue hall =>
    have hm : l.getD i z ∈ l := by simp only [List.getD, List.getElem?_eq_getElem hi, Option.getD_some]; exact List.getElem_mem hi
    obtain ⟨v, hv⟩ := Option.isSome_iff_exists.1 (List.all_eq_true.1 hall _ hm)
    refine ⟨v, hv, fun e => ?_⟩
    rw [← Option.some.inj h]
    exact List.all_eq_false.2 ⟨_, hm, by rw [hv, e]; decide⟩
theorem allO_true {α : Type} {l : List α} {g : α → Option Bool} {r : Bool} (h : allO l g = some r) (z : α) (ht : ∀ i, i < l.length → g (l.getD i z) = some true) : r = true := by
  unfold allO at h
  split at h
  case isFalse => cases h
  case isTrue hall =>
    rw [← Option.some.inj h]
    refine List.all_eq_true.2 fun x hx => ?_
    obtain ⟨i, hi, rfl⟩ := List.getElem_of_mem hx
    have := ht i hi
    simp only [List.getD, List.getElem?_eq_getElem hi, Option.getD_some] at this
    rw [this]
    rfl
/-- is a number small? -/
def semblanceref12_small.f (a0 : Int) : Option Bool := some (decide (a0 ≥ (-1000)) && decide (a0 ≤ 1000))
set_option maxHeartbeats 2000000 in
theorem semblanceref12_small.calls (a0 : Int) (r : Bool) (w : World) (h : semblanceref12_small.f a0 = some r) :
    Calls Tryz.prog 30 #[.int .i64 a0] w fun e w' => e = .returned (.bool r) ∧ Drawn0 w w' := by
  obtain rfl := Option.some.inj h
  clear h
  go_enter Tryz.func30, Tryz.ntmps30
  cases h1 : decide (a0 ≥ (-1000)) <;>
    (go_wp2
     go_ret
     exact ⟨by simp, dw_⟩)


/-! ### semblanceref05_Arity: function 125 -/
def semblanceref05_Arity.f (a0 : Int) : Option (Int) := if a0 < 1 then (some (-1)) else (if a0 > 20 then (some (-1)) else ((some (([0, 0, 0, 1, 2, 2, 2, 2, 2, 0, 0, 0, 1, 2, 2, 2, 2, 2, 2, 2, 2] : List Int) : List Int)).bind fun y131 => (if 0 ≤ a0 then (if a0 < (y131.length : Int) then (some (rd y131 a0)) else (none)) else (none))))
set_option maxHeartbeats 8000000 in
set_option maxRecDepth 100000 in
theorem semblanceref05_Arity.calls (a0 : Int) (r : Int) (w : World) (h : semblanceref05_Arity.f a0 = some r) :
  Calls Tryz.prog 125 #[.int .i64 a0] w fun e w' => e = .returned (.int .i64 r) ∧ Below w.heap.size w w' := by
 have HB := Aside0.mk (Below.refl w.heap.size w)
 unfold semblanceref05_Arity.f at h
 have H := h
 clear h
 replace H := iu_ H; obtain ⟨c2b0, H⟩ | ⟨c2b0, H⟩ := H
 ·obtain rfl := Option.some.inj H
  go_enter Tryz.func125, Tryz.ntmps125
  go_wp2
  go_ret
  exact ⟨rv_, bw_⟩
 replace H := id_ H; obtain ⟨c3, H⟩ | ⟨c3, H⟩ := H
 ·have c3b0 : decide (20 < a0) = true := decide_eq_true c3
  clear c3
  obtain rfl := Option.some.inj H
  go_enter Tryz.func125, Tryz.ntmps125
  go_wp2
  go_ret
  exact ⟨rv_, bw_⟩
 have c3b0 : decide (20 < a0) = false := decide_eq_false c3
 clear c3
 obtain ⟨y131, hy131⟩ : ∃ y_ : List Int, y_ = (([0, 0, 0, 1, 2, 2, 2, 2, 2, 0, 0, 0, 1, 2, 2, 2, 2, 2, 2, 2, 2] : List Int)) := ⟨_, rfl⟩
 replace H : (if 0 ≤ a0 then (if a0 < (y131.length : Int) then (some (rd y131 a0)) else (none)) else (none)) = some r := by first | (rw [hy131]; with_reducible exact H) | (have H2_ := (Option.bind_some _ _).symm.trans H; rw [hy131]; with_reducible exact H2_) | (have H2_ := (Option.bind_some _ _).symm.trans H; with_reducible exact H2_) | with_reducible exact H | (rw [hy131]; exact H) | exact H
 have Ny131 := Aside0.mk hy131
 clear hy131
 replace H := ic_ H; obtain ⟨c4, H⟩ | ⟨c4, H⟩ := H
 ·exact absurd H (by simp)

 have c4b0 : decide (0 ≤ a0) = true := decide_eq_true c4
 clear c4
 replace H := is_ H; obtain ⟨c5b0, H⟩ := H
 obtain rfl := Option.some.inj H
 go_enter Tryz.func125, Tryz.ntmps125
 go_wp2_with (first | ((with_reducible refine gate_dst (N := 9) rfl ?_); refine Kd.R_lit (Kd.int .i64) _ 3 ?hg (N := 9) ?hd (xs := ([0, 0, 0, 1, 2, 2, 2, 2, 2, 0, 0, 0, 1, 2, 2, 2, 2, 2, 2, 2, 2] : List Int)) (inner := [.int .i64 0, .int .i64 0, .int .i64 0, .int .i64 1, .int .i64 2, .int .i64 2, .int .i64 2, .int .i64 2, .int .i64 2, .int .i64 0, .int .i64 0, .int .i64 0, .int .i64 1, .int .i64 2, .int .i64 2, .int .i64 2, .int .i64 2, .int .i64 2, .int .i64 2, .int .i64 2, .int .i64 2]) (ok := fun _ => True) (okp := fun _ => True) ?hr ?hp (fun _ hk => hk) trivial (Below.refl _ _) (Nat.le_refl _) (by simp) ?_; (case hd => rfl); (case hg => rfl); (case hr => first | (go_simp; done) | (go_simp; rfl)); (case hp => exact (Reps.one (show Kd.M (Kd.int .i64) _ _ _ 0 [.int .i64 0] from rfl) (Reps.one (show Kd.M (Kd.int .i64) _ _ _ 0 [.int .i64 0] from rfl) (Reps.one (show Kd.M (Kd.int .i64) _ _ _ 0 [.int .i64 0] from rfl) (Reps.one (show Kd.M (Kd.int .i64) _ _ _ 1 [.int .i64 1] from rfl) (Reps.one (show Kd.M (Kd.int .i64) _ _ _ 2 [.int .i64 2] from rfl) (Reps.one (show Kd.M (Kd.int .i64) _ _ _ 2 [.int .i64 2] from rfl) (Reps.one (show Kd.M (Kd.int .i64) _ _ _ 2 [.int .i64 2] from rfl) (Reps.one (show Kd.M (Kd.int .i64) _ _ _ 2 [.int .i64 2] from rfl) (Reps.one (show Kd.M (Kd.int .i64) _ _ _ 2 [.int .i64 2] from rfl) (Reps.one (show Kd.M (Kd.int .i64) _ _ _ 0 [.int .i64 0] from rfl) (Reps.one (show Kd.M (Kd.int .i64) _ _ _ 0 [.int .i64 0] from rfl) (Reps.one (show Kd.M (Kd.int .i64) _ _ _ 0 [.int .i64 0] from rfl) (Reps.one (show Kd.M (Kd.int .i64) _ _ _ 1 [.int .i64 1] from rfl) (Reps.one (show Kd.M (Kd.int .i64) _ _ _ 2 [.int .i64 2] from rfl) (Reps.one (show Kd.M (Kd.int .i64) _ _ _ 2 [.int .i64 2] from rfl) (Reps.one (show Kd.M (Kd.int .i64) _ _ _ 2 [.int .i64 2] from rfl) (Reps.one (show Kd.M (Kd.int .i64) _ _ _ 2 [.int .i64 2] from rfl) (Reps.one (show Kd.M (Kd.int .i64) _ _ _ 2 [.int .i64 2] from rfl) (Reps.one (show Kd.M (Kd.int .i64) _ _ _ 2 [.int .i64 2] from rfl) (Reps.one (show Kd.M (Kd.int .i64) _ _ _ 2 [.int .i64 2] from rfl) (Reps.one (show Kd.M (Kd.int .i64) _ _ _ 2 [.int .i64 2] from rfl) (Reps.none _ _))))))))))))))))))))))); intro v132 w6 ho7 hb hg_ hnew_; clear hg_ hnew_; (first | rw [← Ny131.out] at ho7 | (simp only [Int.reduceToNat] at ho7; rw [← Ny131.out] at ho7)); have HO133 := Aside0.mk (Kd.R_lower ho7 (below_size (brw HB.out))); replace HB := ts_ HB hb; clear hb ho7; obtain ⟨Ao8, co8, eo8⟩ := Kd.R_slice HO133.out; subst eo8; have p134 : 0 ≤ (a0 : Int) := of_decide_eq_true (by first | (with_reducible assumption) | assumption); have q134 : a0 < (y131.length : Int) := of_decide_eq_true (by first | (with_reducible assumption) | assumption); obtain ⟨ad134, e134, hx134_0⟩ := Kd.at_int (Kd.R_reads' HO133.out).2.2 a0 p134 q134; cases e134; replace p134 := eq_true p134; replace q134 := eq_true q134))
 go_ret
 exact ⟨rv_, bw_⟩
/-! ### semblanceref05_End: function 112 -/
mutual
def semblanceref05_End.j0 : Nat → List (S78) → Int → Bool → Option (Int)
  | 0, _, _, _ => none
  | k + 1, x0, x1, x23 => if x23 = true then (some (-1)) else (semblanceref05_End.l0 k x0 x1 (wrap64 (x1 + 1)) 0)
def semblanceref05_End.l0 : Nat → List (S78) → Int → Int → Int → Option (Int)
  | 0, _, _, _, _ => none
  | k + 1, x0, x1, x5, x6 => if 0 ≤ x1 then (if x1 < (x0.length : Int) then ((semblanceref05_Arity.f ((rd_T78 x0 x1).f0)).bind fun t138 => (if x6 < t138 then ((semblanceref05_End.f k x0 x5).bind fun t139 => (if t139 < 0 then (some (-1)) else (semblanceref05_End.l0 k x0 x1 t139 (wrap64 (x6 + 1))))) else (some x5))) else (none)) else (none)
def semblanceref05_End.f : Nat → List (S78) → Int → Option (Int)
  | 0, _, _ => none
  | k + 1, l0, a1 => if a1 < 0 then (semblanceref05_End.j0 k l0 a1 true) else (if a1 ≥ (l0.length : Int) then (semblanceref05_End.j0 k l0 a1 true) else (if 0 ≤ a1 then (if a1 < (l0.length : Int) then ((semblanceref05_Arity.f ((rd_T78 l0 a1).f0)).bind fun t136 => (semblanceref05_End.j0 k l0 a1 (decide (t136 < 0)))) else (none)) else (none)))
end
theorem semblanceref05_End.mono_l : ∀ k, (∀ y0 y1, LeO (semblanceref05_End.f k y0 y1) (semblanceref05_End.f (k + 1) y0 y1)) ∧ (∀ y0 y1 y2, LeO (semblanceref05_End.j0 k y0 y1 y2) (semblanceref05_End.j0 (k + 1) y0 y1 y2)) ∧ (∀ y0 y1 y2 y3, LeO (semblanceref05_End.l0 k y0 y1 y2 y3) (semblanceref05_End.l0 (k + 1) y0 y1 y2 y3))
  | 0 => ⟨fun _ _ r h => by simp [semblanceref05_End.f] at h, fun _ _ _ r h => by simp [semblanceref05_End.j0] at h, fun _ _ _ _ r h => by simp [semblanceref05_End.l0] at h⟩
  | k + 1 => by
    obtain ⟨ih0, ih1, ih2⟩ := semblanceref05_End.mono_l k
    refine ⟨?_, ?_, ?_⟩
    · intro y0 y1
      unfold semblanceref05_End.f
      exact mo_
    · intro y0 y1 y2
      unfold semblanceref05_End.j0
      exact mo_
    · intro y0 y1 y2 y3
      unfold semblanceref05_End.l0
      exact mo_
theorem semblanceref05_End.mono : ∀ a0 a1 k, LeO (semblanceref05_End.f k a0 a1) (semblanceref05_End.f (k + 1) a0 a1) := by
  intro a0 a1 k
  obtain ⟨ih0, ih1, ih2⟩ := semblanceref05_End.mono_l k
  exact ih0 a0 a1
instance semblanceref05_End.lc : ∀ a0 a1 k, LeC (semblanceref05_End.f k a0 a1) (semblanceref05_End.f (k + 1) a0 a1) := fun a0 a1 k => ⟨semblanceref05_End.mono a0 a1 k⟩
set_option maxHeartbeats 8000000 in
set_option maxRecDepth 100000 in
theorem semblanceref05_End.calls (k : Nat) : ∀ (A0 : Option Addr) (c0 : Nat) (l0 : List (S78)) (a1 : Int) (r : Int) (w : World) (hr0 : Kd.C k78 w A0 l0.length l0) (hc0 : l0.length ≤ c0) (h : semblanceref05_End.f k l0 a1 = some r),
  Calls Tryz.prog 112 #[.slice A0 l0.length c0, .int .i64 a1] w fun e w' => e = .returned (.int .i64 r) ∧ Below w.heap.size w w' := by
 induction k using Nat.strongRecOn with
 | _ k ih =>
 intro A0 c0 l0 a1 r w hr0 hc0 h
 cases k with
 | zero => exact absurd h (by simp [semblanceref05_End.f])
 | succ k =>
 simp only [semblanceref05_End.f] at h
 have HR0 := Aside0.mk hr0
 have HC0 := Aside0.mk hc0
 clear hr0 hc0
 have HB := Aside0.mk (Below.refl w.heap.size w)
 have H : (if a1 < 0 then (semblanceref05_End.j0 k l0 a1 true) else (if a1 ≥ (l0.length : Int) then (semblanceref05_End.j0 k l0 a1 true) else (if 0 ≤ a1 then (if a1 < (l0.length : Int) then ((semblanceref05_Arity.f ((rd_T78 l0 a1).f0)).bind fun t136 => (semblanceref05_End.j0 k l0 a1 (decide (t136 < 0)))) else (none)) else (none)))) = some r := h
 clear h
 have HC3 := Aside0.mk H
 clear H
 go_enter Tryz.func112, Tryz.ntmps112
 go_upto_region 1 with (fail)
 go_cut [23] (fun v23 wc => ∃ (kq : Nat) (x23_2 : Bool), v23 = .bool x23_2 ∧ Aside0 (semblanceref05_End.j0 kq l0 a1 x23_2 = some r) ∧ Aside0 (kq ≤ k) ∧ Aside0 (Below w.heap.size w wc))
 case first =>
  have H := HC3.out
  clear HC3
  replace H := iu_ H; obtain ⟨c4b0, H⟩ | ⟨c4b0, H⟩ := H
  ·(first | rw [c4b0] | (simp only [i64_w, i32_w]; rw [c4b0]) | skip)
   have H' := Aside0.mk H
   clear H
   go_wp2
   go_meet
   case rel => exact ⟨_, (true), rl_, H', ⟨km_⟩, ⟨bw_⟩⟩
  (first | rw [c4b0] | (simp only [i64_w, i32_w]; rw [c4b0]) | skip)
  replace H := id_ H; obtain ⟨c5, H⟩ | ⟨c5, H⟩ := H
  ·have c5b0 : decide ((l0.length : Int) ≤ a1) = true := decide_eq_true c5
   clear c5
   have H' := Aside0.mk H
   clear H
   go_wp2
   go_meet
   case rel => exact ⟨_, (true), rl_, H', ⟨km_⟩, ⟨bw_⟩⟩
  have c5b0 : decide ((l0.length : Int) ≤ a1) = false := decide_eq_false c5
  clear c5
  replace H := is_ H; obtain ⟨c6b0, H⟩ := H
  replace H := is_ H; obtain ⟨c7b0, H⟩ := H
  replace H := bi_ H; obtain ⟨t136, A8, H⟩ := H
  have H' := Aside0.mk H
  clear H
  obtain ⟨ad135, e135, hx135_0, hx135_1, hx135_2, p135, q135⟩ := au_T78 HR0 HB a1; cases e135
  go_wp2_with (first | (go_at_call 125; (with_reducible refine cm_ (semblanceref05_Arity.calls ((rd_T78 l0 a1).f0) t136 _ A8.out) ?_); intro w9 hb; replace HB := ts_ HB hb; clear hb))
  go_meet
  case rel => exact ⟨_, (decide (t136 < 0)), rl_, H', ⟨km_⟩, ⟨bw_⟩⟩
 case rest =>
  clear HC3
  obtain ⟨kq, x23_2, rfl, HA, HJ2, HB⟩ := hcut
  cases kq with
  | zero => exact absurd HA.out (by simp [semblanceref05_End.j0])
  | succ kj2 =>
   have H := HA.out
   clear HA
   simp only [semblanceref05_End.j0] at H
   replace H := ie_ H; obtain ⟨rfl, H⟩ | ⟨rfl, H⟩ := H
   ·obtain rfl := Option.some.inj H
    go_wp2
    go_ret
    exact ⟨rv_, bw_⟩
   have H' := Aside0.mk H
   clear H
   go_wp2
   go_loopg [5, 6] kj2 (fun kq v5 v6 w' => ∃ (x5_2 : Int) (x6_2 : Int), v5 = .int .i64 x5_2 ∧ v6 = .int .i64 x6_2 ∧ Aside0 (semblanceref05_End.l0 kq l0 a1 x5_2 x6_2 = some r) ∧ Aside0 (kq ≤ kj2) ∧ Aside0 (Below w.heap.size w w'))
   case atStart => exact ⟨(wrap64 (a1 + 1)), (0), rl_, rl_, H', ⟨Nat.le_refl _⟩, ⟨bw_⟩⟩
   case round =>
    clear H'
    try clear c10
    obtain ⟨x5_2, x6_2, rfl, rfl, HA, HK2, HB⟩ := hrel
    cases gk with
    | zero => exact absurd HA.out (by simp [semblanceref05_End.l0])
    | succ k2 =>
     have H := HA.out
     clear HA
     simp only [semblanceref05_End.l0] at H
     replace H := ic_ H; obtain ⟨c11, H⟩ | ⟨c11, H⟩ := H
     ·exact absurd H (by simp)

     have c11b0 : decide (0 ≤ a1) = true := decide_eq_true c11
     clear c11
     replace H := is_ H; obtain ⟨c12b0, H⟩ := H
     replace H := bi_ H; obtain ⟨t138, A13, H⟩ := H
     replace H := it_ H; obtain ⟨c14b0, H⟩ | ⟨c14b0, H⟩ := H
     ·obtain rfl := Option.some.inj H
      obtain ⟨ad137, e137, hx137_0, hx137_1, hx137_2, p137, q137⟩ := au_T78 HR0 HB a1; cases e137
      go_wp2_with (first | ((with_reducible refine gate_callee (f := 125) rfl ?_); refine gl_ (some 32) Tryz.func125 #[.int .i64 ((rd_T78 l0 a1).f0)] ?_; (with_reducible refine cm_ (semblanceref05_Arity.calls ((rd_T78 l0 a1).f0) t138 _ A13.out) ?_); intro w21 hb; refine ⟨_, rfl, ?_⟩; replace HB := ts_ HB hb; clear hb))
      go_ret
      exact ⟨rv_, bw_⟩
     replace H := bi_ H; obtain ⟨t139, A15, H⟩ := H
     replace H := iu_ H; obtain ⟨c16b0, H⟩ | ⟨c16b0, H⟩ := H
     ·obtain rfl := Option.some.inj H
      obtain ⟨ad137, e137, hx137_0, hx137_1, hx137_2, p137, q137⟩ := au_T78 HR0 HB a1; cases e137
      go_wp2_with (first | ((with_reducible refine gate_callee (f := 125) rfl ?_); refine gl_ (some 32) Tryz.func125 #[.int .i64 ((rd_T78 l0 a1).f0)] ?_; (with_reducible refine cm_ (semblanceref05_Arity.calls ((rd_T78 l0 a1).f0) t138 _ A13.out) ?_); intro w17 hb; refine ⟨_, rfl, ?_⟩; replace HB := ts_ HB hb; clear hb) | ((with_reducible refine gate_callee (f := 112) rfl ?_); refine gl_ (some 38) Tryz.func112 #[.slice (some ad137) l0.length c0, .int .i64 x5_2] ?_; (with_reducible refine cm_ (ih k2 (by have := HJ2.out; have := HK2.out; omega) _ _ l0 x5_2 t139 _ (kc_ HR0 HB) HC0.out A15.out) ?_); intro w18 hb; refine ⟨_, rfl, ?_⟩; replace HB := ts_ HB hb; clear hb))
      go_ret
      exact ⟨rv_, bw_⟩
     have H' := Aside0.mk H
     clear H
     obtain ⟨ad137, e137, hx137_0, hx137_1, hx137_2, p137, q137⟩ := au_T78 HR0 HB a1; cases e137
     go_wp2_with (first | ((with_reducible refine gate_callee (f := 125) rfl ?_); refine gl_ (some 32) Tryz.func125 #[.int .i64 ((rd_T78 l0 a1).f0)] ?_; (with_reducible refine cm_ (semblanceref05_Arity.calls ((rd_T78 l0 a1).f0) t138 _ A13.out) ?_); intro w19 hb; refine ⟨_, rfl, ?_⟩; replace HB := ts_ HB hb; clear hb) | ((with_reducible refine gate_callee (f := 112) rfl ?_); refine gl_ (some 38) Tryz.func112 #[.slice (some ad137) l0.length c0, .int .i64 x5_2] ?_; (with_reducible refine cm_ (ih k2 (by have := HJ2.out; have := HK2.out; omega) _ _ l0 x5_2 t139 _ (kc_ HR0 HB) HC0.out A15.out) ?_); intro w20 hb; refine ⟨_, rfl, ?_⟩; replace HB := ts_ HB hb; clear hb))
     go_roundg k2
     case measure => have := HJ2.out; have := HK2.out; omega
     case rel => exact ⟨(t139), (wrap64 (x6_2 + 1)), rl_, rl_, H', ⟨by have := HJ2.out; have := HK2.out; omega⟩, ⟨bw_⟩⟩
/-! ### semblanceref05_Whole: function 95 -/
def semblanceref05_Whole.f (k : Nat) (l0 : List (S78)) : Option (Bool) := if (l0.length : Int) ≤ 40 then ((semblanceref05_End.f k l0 0).bind fun t140 => (some (t140 == (l0.length : Int)))) else (some false)
theorem semblanceref05_Whole.mono : ∀ a0 k, LeO (semblanceref05_Whole.f k a0) (semblanceref05_Whole.f (k + 1) a0) := by
  intro a0 k
  unfold semblanceref05_Whole.f
  exact mo_
instance semblanceref05_Whole.lc : ∀ a0 k, LeC (semblanceref05_Whole.f k a0) (semblanceref05_Whole.f (k + 1) a0) := fun a0 k => ⟨semblanceref05_Whole.mono a0 k⟩
set_option maxHeartbeats 8000000 in
set_option maxRecDepth 100000 in
theorem semblanceref05_Whole.calls (k : Nat) (A0 : Option Addr) (c0 : Nat) (l0 : List (S78)) (r : Bool) (w : World) (hr0 : Kd.C k78 w A0 l0.length l0) (hc0 : l0.length ≤ c0) (h : semblanceref05_Whole.f k l0 = some r) :
  Calls Tryz.prog 95 #[.slice A0 l0.length c0] w fun e w' => e = .returned (.bool r) ∧ Below w.heap.size w w' := by
 have HR0 := Aside0.mk hr0
 have HC0 := Aside0.mk hc0
 clear hr0 hc0
 have HB := Aside0.mk (Below.refl w.heap.size w)
 unfold semblanceref05_Whole.f at h
 have H := h
 clear h
 replace H := ic_ H; obtain ⟨c2, H⟩ | ⟨c2, H⟩ := H
 ·have c2b0 : decide ((l0.length : Int) ≤ 40) = false := decide_eq_false c2
  have c2b1 : decide (l0.length ≤ 40) = false := decide_eq_false (by omega)
  clear c2
  obtain rfl := Option.some.inj H
  go_enter Tryz.func95, Tryz.ntmps95
  go_wp2
  go_ret
  exact ⟨rv_, bw_⟩

 have c2b0 : decide ((l0.length : Int) ≤ 40) = true := decide_eq_true c2
 have c2b1 : decide (l0.length ≤ 40) = true := decide_eq_true (by omega)
 clear c2
 replace H := bi_ H; obtain ⟨t140, A3, H⟩ := H
 obtain rfl := Option.some.inj H
 go_enter Tryz.func95, Tryz.ntmps95
 go_wp2_with (first | (go_at_call 112; (with_reducible refine cm_ (semblanceref05_End.calls k _ _ l0 0 t140 _ (kg_ HR0.out) HC0.out A3.out) ?_); intro w4 hb; replace HB := ts_ HB hb; clear hb))
 go_ret
 exact ⟨rv_, bw_⟩
/-! ### semblanceref05_May: function 96 -/
def semblanceref05_May.j0 : Nat → Bool → Int → Int → ByteArray → Option (Bool)
  | 0, _, _, _, _ => none
  | k + 1, x30, x142000, x142001, x142002 => if x30 = true then (some false) else (if x142000 = 2 then ((semblanceref02_Is.f k x142002).bind fun t142 => (some t142)) else (if x142000 = 11 then ((semblanceref02_Is.f k x142002).bind fun t143 => (some t143)) else (some ((x142002.size : Int) == 0))))
def semblanceref05_May.f (k : Nat) (a0_0 : Int) (a0_1 : Int) (a0_2 : ByteArray) : Option (Bool) := if a0_0 < 1 then (semblanceref05_May.j0 k true a0_0 a0_1 a0_2) else (if a0_0 > 20 then (semblanceref05_May.j0 k true a0_0 a0_1 a0_2) else (if a0_0 = 1 then (if a0_1 < 0 then (semblanceref05_May.j0 k true a0_0 a0_1 a0_2) else (semblanceref05_May.j0 k (decide (a0_1 > 1000000)) a0_0 a0_1 a0_2)) else (if a0_1 = 0 then (if a0_1 < 0 then (semblanceref05_May.j0 k true a0_0 a0_1 a0_2) else (semblanceref05_May.j0 k (decide (a0_1 > 1000000)) a0_0 a0_1 a0_2)) else (semblanceref05_May.j0 k true a0_0 a0_1 a0_2))))
theorem semblanceref05_May.mono_l : ∀ k, (∀ y0 y1 y2 y3, LeO (semblanceref05_May.j0 k y0 y1 y2 y3) (semblanceref05_May.j0 (k + 1) y0 y1 y2 y3))
  | 0 => fun _ _ _ _ r h => by simp [semblanceref05_May.j0] at h
  | k + 1 => by
    have ih0 := semblanceref05_May.mono_l k
    · intro y0 y1 y2 y3
      unfold semblanceref05_May.j0
      exact mo_
theorem semblanceref05_May.mono : ∀ a0 a1 a2 k, LeO (semblanceref05_May.f k a0 a1 a2) (semblanceref05_May.f (k + 1) a0 a1 a2) := by
  intro a0 a1 a2 k
  have ih0 := semblanceref05_May.mono_l k
  unfold semblanceref05_May.f
  exact mo_
instance semblanceref05_May.lc : ∀ a0 a1 a2 k, LeC (semblanceref05_May.f k a0 a1 a2) (semblanceref05_May.f (k + 1) a0 a1 a2) := fun a0 a1 a2 k => ⟨semblanceref05_May.mono a0 a1 a2 k⟩
set_option maxHeartbeats 8000000 in
set_option maxRecDepth 100000 in
theorem semblanceref05_May.calls (k : Nat) (a0_0 : Int) (a0_1 : Int) (a0_2 : ByteArray) (r : Bool) (w : World) (h : semblanceref05_May.f k a0_0 a0_1 a0_2 = some r) :
  Calls Tryz.prog 96 #[.agg #[.int .i64 a0_0, .int .i64 a0_1, .string a0_2]] w fun e w' => e = .returned (.bool r) ∧ Below w.heap.size w w' := by
 have hu78 := Tryz.underlying78
 have HB := Aside0.mk (Below.refl w.heap.size w)
 unfold semblanceref05_May.f at h
 have HC2 := Aside0.mk h
 clear h
 go_enter Tryz.func96, Tryz.ntmps96
 go_upto_region 1 with (first | ((with_reducible refine gate_dst (N := 1) rfl ?_); refine bx_ HB (N := 1) (cs := #[.int .i64 a0_0, .int .i64 a0_1, .string a0_2]) (t := 78) ?_; clear HB; intro gb141 w3 HB BK141 GW141 GE141))
 (try simp only [Act.put, sb_, s0_, s1_])
 go_cut [30] (fun v30 wc => ∃ (kq : Nat) (x30_1 : Bool), v30 = .bool x30_1 ∧ Aside0 (semblanceref05_May.j0 kq x30_1 a0_0 a0_1 a0_2 = some r) ∧ Aside0 (kq ≤ k) ∧ Aside0 (wc.heap[gb141]? = some (.cells #[.int .i64 a0_0, .int .i64 a0_1, .string a0_2] 78 (0, 0))) ∧ Aside0 (Below w.heap.size w wc))
 case first =>
  have H := HC2.out
  clear HC2
  replace H := iu_ H; obtain ⟨c4b0, H⟩ | ⟨c4b0, H⟩ := H
  ·(first | rw [c4b0] | (simp only [i64_w, i32_w]; rw [c4b0]) | skip)
   have H' := Aside0.mk H
   clear H
   obtain ⟨z5_0, z5_1, z5_2, y5_0, y5_1, y5_2⟩ := cw3_ BK141.out
   go_wp2
   go_meet
   case rel => exact ⟨_, (true), rl_, H', ⟨km_⟩, ⟨grw BK141.out⟩, ⟨bw_⟩⟩
  (first | rw [c4b0] | (simp only [i64_w, i32_w]; rw [c4b0]) | skip)
  replace H := id_ H; obtain ⟨c6, H⟩ | ⟨c6, H⟩ := H
  ·have c6b0 : decide (20 < a0_0) = true := decide_eq_true c6
   clear c6
   have H' := Aside0.mk H
   clear H
   obtain ⟨z7_0, z7_1, z7_2, y7_0, y7_1, y7_2⟩ := cw3_ BK141.out
   go_wp2
   go_meet
   case rel => exact ⟨_, (true), rl_, H', ⟨km_⟩, ⟨grw BK141.out⟩, ⟨bw_⟩⟩
  have c6b0 : decide (20 < a0_0) = false := decide_eq_false c6
  clear c6
  replace H := id_ H; obtain ⟨c8, H⟩ | ⟨c8, H⟩ := H
  ·have c8b0 : (a0_0 == 1) = true := beq_iff_eq.mpr c8
   have c8b1 : (a0_0 != 1) = false := bne_eq_false_iff_eq.mpr c8
   clear c8
   replace H := iu_ H; obtain ⟨c9b0, H⟩ | ⟨c9b0, H⟩ := H
   ·have H' := Aside0.mk H
    clear H
    obtain ⟨z10_0, z10_1, z10_2, y10_0, y10_1, y10_2⟩ := cw3_ BK141.out
    go_wp2
    go_meet
    case rel => exact ⟨_, (true), rl_, H', ⟨km_⟩, ⟨grw BK141.out⟩, ⟨bw_⟩⟩
   have H' := Aside0.mk H
   clear H
   obtain ⟨z11_0, z11_1, z11_2, y11_0, y11_1, y11_2⟩ := cw3_ BK141.out
   go_wp2
   go_meet
   case rel => exact ⟨_, (decide (a0_1 > 1000000)), rl_, H', ⟨km_⟩, ⟨grw BK141.out⟩, ⟨bw_⟩⟩
  have c8b0 : (a0_0 == 1) = false := beq_eq_false_iff_ne.mpr c8
  have c8b1 : (a0_0 != 1) = true := bne_iff_ne.mpr c8
  replace H := ic_ H; obtain ⟨c12, H⟩ | ⟨c12, H⟩ := H
  ·have c12b0 : (a0_1 == 0) = false := beq_eq_false_iff_ne.mpr c12
   have c12b1 : (a0_1 != 0) = true := bne_iff_ne.mpr c12
   have H' := Aside0.mk H
   clear H
   obtain ⟨z16_0, z16_1, z16_2, y16_0, y16_1, y16_2⟩ := cw3_ BK141.out
   go_wp2
   go_meet
   case rel => exact ⟨_, (true), rl_, H', ⟨km_⟩, ⟨grw BK141.out⟩, ⟨bw_⟩⟩
  have c12b0 : (a0_1 == 0) = true := beq_iff_eq.mpr c12
  have c12b1 : (a0_1 != 0) = false := bne_eq_false_iff_eq.mpr c12
  clear c12
  replace H := iu_ H; obtain ⟨c13b0, H⟩ | ⟨c13b0, H⟩ := H
  ·have H' := Aside0.mk H
   clear H
   obtain ⟨z14_0, z14_1, z14_2, y14_0, y14_1, y14_2⟩ := cw3_ BK141.out
   go_wp2
   go_meet
   case rel => exact ⟨_, (true), rl_, H', ⟨km_⟩, ⟨grw BK141.out⟩, ⟨bw_⟩⟩
  have H' := Aside0.mk H
  clear H
  obtain ⟨z15_0, z15_1, z15_2, y15_0, y15_1, y15_2⟩ := cw3_ BK141.out
  go_wp2
  go_meet
  case rel => exact ⟨_, (decide (a0_1 > 1000000)), rl_, H', ⟨km_⟩, ⟨grw BK141.out⟩, ⟨bw_⟩⟩
 case rest =>
  clear HC2
  obtain ⟨kq, x30_1, rfl, HA, HJ1, BK141, HB⟩ := hcut
  cases kq with
  | zero => exact absurd HA.out (by simp [semblanceref05_May.j0])
  | succ kj1 =>
   have H := HA.out
   clear HA
   simp only [semblanceref05_May.j0] at H
   replace H := ie_ H; obtain ⟨rfl, H⟩ | ⟨rfl, H⟩ := H
   ·obtain rfl := Option.some.inj H
    go_wp2
    go_ret
    exact ⟨rv_, bw_⟩
   replace H := id_ H; obtain ⟨c18, H⟩ | ⟨c18, H⟩ := H
   ·have c18b0 : (a0_0 == 2) = true := beq_iff_eq.mpr c18
    have c18b1 : (a0_0 != 2) = false := bne_eq_false_iff_eq.mpr c18
    clear c18
    replace H := bi_ H; obtain ⟨t142, A19, H⟩ := H
    obtain rfl := Option.some.inj H
    obtain ⟨z20_0, z20_1, z20_2, y20_0, y20_1, y20_2⟩ := cw3_ BK141.out
    go_wp2_with (first | ((with_reducible refine gate_callee (f := 28) rfl ?_); refine gl_ (some 41) Tryz.func28 #[.string a0_2] ?_; (with_reducible refine cm_ (semblanceref02_Is.calls kj1 a0_2 t142 _ A19.out) ?_); intro w21 hb; refine ⟨_, rfl, ?_⟩; replace BK141 := tb_ BK141 hb; replace HB := ts_ HB hb; clear hb))
    go_ret
    exact ⟨rv_, bw_⟩
   have c18b0 : (a0_0 == 2) = false := beq_eq_false_iff_ne.mpr c18
   have c18b1 : (a0_0 != 2) = true := bne_iff_ne.mpr c18
   replace H := ic_ H; obtain ⟨c22, H⟩ | ⟨c22, H⟩ := H
   ·have c22b0 : (a0_0 == 11) = false := beq_eq_false_iff_ne.mpr c22
    have c22b1 : (a0_0 != 11) = true := bne_iff_ne.mpr c22
    obtain rfl := Option.some.inj H
    obtain ⟨z26_0, z26_1, z26_2, y26_0, y26_1, y26_2⟩ := cw3_ BK141.out
    go_wp2
    go_ret
    exact ⟨rv_, bw_⟩

   have c22b0 : (a0_0 == 11) = true := beq_iff_eq.mpr c22
   have c22b1 : (a0_0 != 11) = false := bne_eq_false_iff_eq.mpr c22
   clear c22
   replace H := bi_ H; obtain ⟨t143, A23, H⟩ := H
   obtain rfl := Option.some.inj H
   obtain ⟨z24_0, z24_1, z24_2, y24_0, y24_1, y24_2⟩ := cw3_ BK141.out
   go_wp2_with (first | ((with_reducible refine gate_callee (f := 28) rfl ?_); refine gl_ (some 41) Tryz.func28 #[.string a0_2] ?_; (with_reducible refine cm_ (semblanceref02_Is.calls kj1 a0_2 t143 _ A23.out) ?_); intro w25 hb; refine ⟨_, rfl, ?_⟩; replace BK141 := tb_ BK141 hb; replace HB := ts_ HB hb; clear hb))
   go_ret
   exact ⟨rv_, bw_⟩
/-! ### semblanceref05_Below: function 113 -/
def semblanceref05_Below.l0 : Nat → List (S78) → Int → List Int → Int → Int → Option (List Int)
  | 0, _, _, _, _, _ => none
  | k + 1, x0, x1, x5, x6, x7 => if 0 ≤ x1 then (if x1 < (x0.length : Int) then ((semblanceref05_Arity.f ((rd_T78 x0 x1).f0)).bind fun t148 => (if x7 < t148 then (if x5.length < 17592186044416 then ((semblanceref05_End.f k x0 x6).bind fun t152 => (semblanceref05_Below.l0 k x0 x1 (x5 ++ [x6]) t152 (wrap64 (x7 + 1)))) else (none)) else (some x5))) else (none)) else (none)
def semblanceref05_Below.f (k : Nat) (l0 : List (S78)) (a1 : Int) : Option (List Int) := semblanceref05_Below.l0 k l0 a1 (([] : List Int)) (wrap64 (a1 + 1)) 0
theorem semblanceref05_Below.mono_l : ∀ k, (∀ y0 y1 y2 y3 y4, LeO (semblanceref05_Below.l0 k y0 y1 y2 y3 y4) (semblanceref05_Below.l0 (k + 1) y0 y1 y2 y3 y4))
  | 0 => fun _ _ _ _ _ r h => by simp [semblanceref05_Below.l0] at h
  | k + 1 => by
    have ih0 := semblanceref05_Below.mono_l k
    · intro y0 y1 y2 y3 y4
      unfold semblanceref05_Below.l0
      exact mo_
theorem semblanceref05_Below.mono : ∀ a0 a1 k, LeO (semblanceref05_Below.f k a0 a1) (semblanceref05_Below.f (k + 1) a0 a1) := by
  intro a0 a1 k
  have ih0 := semblanceref05_Below.mono_l k
  unfold semblanceref05_Below.f
  exact mo_
instance semblanceref05_Below.lc : ∀ a0 a1 k, LeC (semblanceref05_Below.f k a0 a1) (semblanceref05_Below.f (k + 1) a0 a1) := fun a0 a1 k => ⟨semblanceref05_Below.mono a0 a1 k⟩
set_option maxHeartbeats 8000000 in
set_option maxRecDepth 100000 in
theorem semblanceref05_Below.calls (k : Nat) (A0 : Option Addr) (c0 : Nat) (l0 : List (S78)) (a1 : Int) (r : List Int) (w : World) (hr0 : Kd.C k78 w A0 l0.length l0) (hc0 : l0.length ≤ c0) (h : semblanceref05_Below.f k l0 a1 = some r) :
  Calls Tryz.prog 113 #[.slice A0 l0.length c0, .int .i64 a1] w fun e w' => ∃ v0_ : Value, e = .returned (v0_) ∧ Kd.R (Kd.int .i64) 3 w' w.heap.size (fun _ => True) v0_ r ∧ Below w.heap.size w w' := by
 have HR0 := Aside0.mk hr0
 have HC0 := Aside0.mk hc0
 clear hr0 hc0
 have HB := Aside0.mk (Below.refl w.heap.size w)
 unfold semblanceref05_Below.f at h
 have H := h
 clear h
 obtain ⟨y144, hy144⟩ : ∃ y_ : List Int, y_ = (([] : List Int)) := ⟨_, rfl⟩
 replace H : (semblanceref05_Below.l0 k l0 a1 y144 (wrap64 (a1 + 1)) 0) = some r := by first | (rw [hy144]; with_reducible exact H) | (have H2_ := (Option.bind_some _ _).symm.trans H; rw [hy144]; with_reducible exact H2_) | (have H2_ := (Option.bind_some _ _).symm.trans H; with_reducible exact H2_) | with_reducible exact H | (rw [hy144]; exact H) | exact H
 have Ny144 := Aside0.mk hy144
 clear hy144
 have H' := Aside0.mk H
 clear H
 go_enter Tryz.func113, Tryz.ntmps113
 go_wp2_with (first | ((with_reducible refine gate_dst (N := 8) rfl ?_); refine Kd.R_lit (Kd.int .i64) _ 3 ?hg (N := 8) ?hd (xs := ([] : List Int)) (inner := []) (ok := fun _ => True) (okp := fun _ => True) ?hr ?hp (fun _ hk => hk) trivial (Below.refl _ _) (Nat.le_refl _) (by simp) ?_; (case hd => rfl); (case hg => rfl); (case hr => first | (go_simp; done) | (go_simp; rfl)); (case hp => exact (Reps.none _ _)); intro v145 w3 ho4 hb hg_ hnew_; clear hg_ hnew_; (first | rw [← Ny144.out] at ho4 | (simp only [Int.reduceToNat] at ho4; rw [← Ny144.out] at ho4)); have HO146 := Aside0.mk (Kd.R_lower ho4 (below_size (brw HB.out))); replace HB := ts_ HB hb; clear hb ho4))
 go_loopg [5, 6, 7] k (fun kq v5 v6 v7 w' => ∃ (x5_1 : List Int) (x6_1 : Int) (x7_1 : Int), v6 = .int .i64 x6_1 ∧ v7 = .int .i64 x7_1 ∧ Aside0 (semblanceref05_Below.l0 kq l0 a1 x5_1 x6_1 x7_1 = some r) ∧ Aside0 (kq ≤ k) ∧ Aside0 (Kd.R (Kd.int .i64) 3 w' w.heap.size (fun _ => True) v5 x5_1) ∧ Aside0 (Below w.heap.size w w'))
 case atStart => exact ⟨(y144), (wrap64 (a1 + 1)), (0), rl_, rl_, H', ⟨Nat.le_refl _⟩, ⟨by (with_reducible repeat (first | apply Kd.R_alloc | apply Kd.R_drewN | apply Kd.R_drew)); exact HO146.out⟩, ⟨bw_⟩⟩
 case round =>
  clear H'
  obtain ⟨x5_1, x6_1, x7_1, rfl, rfl, HA, HK1, HO_5, HB⟩ := hrel
  cases gk with
  | zero => exact absurd HA.out (by simp [semblanceref05_Below.l0])
  | succ k1 =>
   have H := HA.out
   clear HA
   simp only [semblanceref05_Below.l0] at H
   replace H := ic_ H; obtain ⟨c5, H⟩ | ⟨c5, H⟩ := H
   ·exact absurd H (by simp)

   have c5b0 : decide (0 ≤ a1) = true := decide_eq_true c5
   clear c5
   replace H := is_ H; obtain ⟨c6b0, H⟩ := H
   replace H := bi_ H; obtain ⟨t148, A7, H⟩ := H
   replace H := it_ H; obtain ⟨c8b0, H⟩ | ⟨c8b0, H⟩ := H
   ·obtain rfl := Option.some.inj H
    obtain ⟨ad147, e147, hx147_0, hx147_1, hx147_2, p147, q147⟩ := au_T78 HR0 HB a1; cases e147
    go_wp2_with (first | ((with_reducible refine gate_callee (f := 125) rfl ?_); refine gl_ (some 17) Tryz.func125 #[.int .i64 ((rd_T78 l0 a1).f0)] ?_; (with_reducible refine cm_ (semblanceref05_Arity.calls ((rd_T78 l0 a1).f0) t148 _ A7.out) ?_); intro w14 hb; refine ⟨_, rfl, ?_⟩; replace HO_5 := Aside0.mk (Kd.R_below (kR_ HO_5) hb); replace HB := ts_ HB hb; clear hb))
    go_ret
    exact ⟨_, rv_, by (with_reducible repeat (first | apply Kd.R_alloc | apply Kd.R_drewN | apply Kd.R_drew)); exact HO_5.out, by repeat (first | (with_reducible first | exact HB.out | apply below_alloc | apply pw_below_drewN | apply below_drew1) | exact HB.out)⟩
   replace H := ip_ H; obtain ⟨c9, H⟩ := H
   have LMc9 := Aside0.mk c9
   clear c9
   obtain ⟨y149, hy149⟩ : ∃ y_ : List Int, y_ = (x5_1 ++ [x6_1]) := ⟨_, rfl⟩
   replace H : ((semblanceref05_End.f k1 l0 x6_1).bind fun t152 => (semblanceref05_Below.l0 k1 l0 a1 y149 t152 (wrap64 (x7_1 + 1)))) = some r := by first | (rw [hy149]; with_reducible exact H) | (have H2_ := (Option.bind_some _ _).symm.trans H; rw [hy149]; with_reducible exact H2_) | (have H2_ := (Option.bind_some _ _).symm.trans H; with_reducible exact H2_) | with_reducible exact H | (rw [hy149]; exact H) | exact H
   have Ny149 := Aside0.mk hy149
   clear hy149
   replace H := bi_ H; obtain ⟨t152, A10, H⟩ := H
   have H' := Aside0.mk H
   clear H
   obtain ⟨ad147, e147, hx147_0, hx147_1, hx147_2, p147, q147⟩ := au_T78 HR0 HB a1; cases e147
   go_wp2_with (first | ((with_reducible refine gate_callee (f := 125) rfl ?_); refine gl_ (some 17) Tryz.func125 #[.int .i64 ((rd_T78 l0 a1).f0)] ?_; (with_reducible refine cm_ (semblanceref05_Arity.calls ((rd_T78 l0 a1).f0) t148 _ A7.out) ?_); intro w11 hb; refine ⟨_, rfl, ?_⟩; replace HO_5 := Aside0.mk (Kd.R_below (kR_ HO_5) hb); replace HB := ts_ HB hb; clear hb) | ((with_reducible refine gate_builtin (b := .append) (xs := #[.tmp 21, .tmp 23]) rfl ?_); at_builtin; refine Kd.R_append (Kd.int .i64) (w0 := w) w.heap.size rfl (.tmp 21) (.tmp 23) 95 3 (.int .i64 0) 8 rfl Tryz.underlying95 info3 rfl (by decide) (by omega) u5 x5_1 x6_1 [.int .i64 x6_1] (fun _ => True) (fun _ => False) rfl rfl ?aP (fun _ hk => hk.elim) ?aF ?aO ?aB ?aS ?aL ?_; (case aP => exact rfl); (case aB => exact (brw HB.out)); (case aF => exact (fun _ _ => trivial)); (case aO => exact (kR_ HO_5)); (case aS => exact (below_size (brw HB.out))); (case aL => have := LMc9.out; omega); intro v150 w12 ho hb hg hat; rw [← Ny149.out] at ho; have HO151 := Aside0.mk (ho); replace HB := Aside0.mk (hb); clear ho hb hg hat) | ((with_reducible refine gate_callee (f := 112) rfl ?_); refine gl_ (some 27) Tryz.func112 #[.slice (some ad147) l0.length c0, .int .i64 x6_1] ?_; (with_reducible refine cm_ (semblanceref05_End.calls k1 _ _ l0 x6_1 t152 _ (kc_ HR0 HB) HC0.out A10.out) ?_); intro w13 hb; refine ⟨_, rfl, ?_⟩; replace HO151 := Aside0.mk (Kd.R_below (kR_ HO151) hb); replace HB := ts_ HB hb; clear hb))
   go_roundg k1
   case measure => have := HK1.out; omega
   case rel => exact ⟨(y149), (t152), (wrap64 (x7_1 + 1)), rl_, rl_, H', ⟨kn_ HK1⟩, ⟨by (with_reducible repeat (first | apply Kd.R_alloc | apply Kd.R_drewN | apply Kd.R_drew)); exact HO151.out⟩, ⟨bw_⟩⟩
/-! ### semblanceref05_Depth: function 97 -/
mutual
def semblanceref05_Depth.l0 : Nat → List (S78) → Int → List Int → Int → Option (Int)
  | 0, _, _, _, _ => none
  | k + 1, x0, x5, x6, x7 => if x7 < (x6.length : Int) then (if 0 ≤ x7 then ((semblanceref05_Depth.f k x0 (rd x6 x7)).bind fun t157 => (if t157 > x5 then (semblanceref05_Depth.l0 k x0 t157 x6 (wrap64 (x7 + 1))) else (semblanceref05_Depth.l0 k x0 x5 x6 (wrap64 (x7 + 1))))) else (none)) else (some (wrap64 (x5 + 1)))
def semblanceref05_Depth.f : Nat → List (S78) → Int → Option (Int)
  | 0, _, _ => none
  | k + 1, l0, a1 => (semblanceref05_Below.f k l0 a1).bind fun t153 => (semblanceref05_Depth.l0 k l0 0 t153 0)
end
theorem semblanceref05_Depth.mono_l : ∀ k, (∀ y0 y1, LeO (semblanceref05_Depth.f k y0 y1) (semblanceref05_Depth.f (k + 1) y0 y1)) ∧ (∀ y0 y1 y2 y3, LeO (semblanceref05_Depth.l0 k y0 y1 y2 y3) (semblanceref05_Depth.l0 (k + 1) y0 y1 y2 y3))
  | 0 => ⟨fun _ _ r h => by simp [semblanceref05_Depth.f] at h, fun _ _ _ _ r h => by simp [semblanceref05_Depth.l0] at h⟩
  | k + 1 => by
    obtain ⟨ih0, ih1⟩ := semblanceref05_Depth.mono_l k
    refine ⟨?_, ?_⟩
    · intro y0 y1
      unfold semblanceref05_Depth.f
      exact mo_
    · intro y0 y1 y2 y3
      unfold semblanceref05_Depth.l0
      exact mo_
theorem semblanceref05_Depth.mono : ∀ a0 a1 k, LeO (semblanceref05_Depth.f k a0 a1) (semblanceref05_Depth.f (k + 1) a0 a1) := by
  intro a0 a1 k
  obtain ⟨ih0, ih1⟩ := semblanceref05_Depth.mono_l k
  exact ih0 a0 a1
instance semblanceref05_Depth.lc : ∀ a0 a1 k, LeC (semblanceref05_Depth.f k a0 a1) (semblanceref05_Depth.f (k + 1) a0 a1) := fun a0 a1 k => ⟨semblanceref05_Depth.mono a0 a1 k⟩
set_option maxHeartbeats 8000000 in
set_option maxRecDepth 100000 in
theorem semblanceref05_Depth.calls (k : Nat) : ∀ (A0 : Option Addr) (c0 : Nat) (l0 : List (S78)) (a1 : Int) (r : Int) (w : World) (hr0 : Kd.C k78 w A0 l0.length l0) (hc0 : l0.length ≤ c0) (h : semblanceref05_Depth.f k l0 a1 = some r),
  Calls Tryz.prog 97 #[.slice A0 l0.length c0, .int .i64 a1] w fun e w' => e = .returned (.int .i64 r) ∧ Below w.heap.size w w' := by
 induction k using Nat.strongRecOn with
 | _ k ih =>
 intro A0 c0 l0 a1 r w hr0 hc0 h
 cases k with
 | zero => exact absurd h (by simp [semblanceref05_Depth.f])
 | succ k =>
 simp only [semblanceref05_Depth.f] at h
 have HR0 := Aside0.mk hr0
 have HC0 := Aside0.mk hc0
 clear hr0 hc0
 have HB := Aside0.mk (Below.refl w.heap.size w)
 have H : ((semblanceref05_Below.f k l0 a1).bind fun t153 => (semblanceref05_Depth.l0 k l0 0 t153 0)) = some r := h
 clear h
 replace H := bi_ H; obtain ⟨t153, A3, H⟩ := H
 have H' := Aside0.mk H
 clear H
 go_enter Tryz.func97, Tryz.ntmps97
 go_wp2_with (first | ((with_reducible refine gate_callee (f := 113) rfl ?_); refine gl_ (some 11) Tryz.func113 #[.slice A0 l0.length c0, .int .i64 a1] ?_; (with_reducible refine (semblanceref05_Below.calls k _ _ l0 a1 t153 _ (kg_ HR0.out) HC0.out A3.out).mono ?_); rintro e w4 ⟨v154, rfl, ho0, hb⟩; have hB_ := bu_ HB hb; refine ⟨_, rfl, ?_⟩; have HO155 := Aside0.mk (Kd.R_lower ho0 (below_size hB_)); replace HB := Aside0.mk (below_step hB_ hb); clear hb; (try clear ho0)))
 go_loopg [5, 7] k (fun kq v5 v7 w' => ∃ (x5_1 : Int) (x7_1 : Int), v5 = .int .i64 x5_1 ∧ v7 = .int .i64 x7_1 ∧ Aside0 (semblanceref05_Depth.l0 kq l0 x5_1 t153 x7_1 = some r) ∧ Aside0 (kq ≤ k) ∧ Aside0 (Kd.R (Kd.int .i64) 3 w' w.heap.size (fun _ => True) v154 t153) ∧ Aside0 (Below w.heap.size w w'))
 case atStart => exact ⟨(0), (0), rl_, rl_, H', ⟨Nat.le_refl _⟩, ⟨by (with_reducible repeat (first | apply Kd.R_alloc | apply Kd.R_drewN | apply Kd.R_drew)); exact HO155.out⟩, ⟨bw_⟩⟩
 case round =>
  clear H'
  obtain ⟨x5_1, x7_1, rfl, rfl, HA, HK1, HO_6, HB⟩ := hrel
  cases gk with
  | zero => exact absurd HA.out (by simp [semblanceref05_Depth.l0])
  | succ k1 =>
   have H := HA.out
   clear HA
   simp only [semblanceref05_Depth.l0] at H
   replace H := it_ H; obtain ⟨c5b0, H⟩ | ⟨c5b0, H⟩ := H
   ·obtain rfl := Option.some.inj H
    obtain ⟨Ao13, co13, eo13⟩ := Kd.R_slice HO_6.out
    subst eo13
    go_wp2
    go_ret
    exact ⟨rv_, bw_⟩

   replace H := is_ H; obtain ⟨c6b0, H⟩ := H
   replace H := bi_ H; obtain ⟨t157, A7, H⟩ := H
   replace H := id_ H; obtain ⟨c8, H⟩ | ⟨c8, H⟩ := H
   ·have c8b0 : decide (x5_1 < t157) = true := decide_eq_true c8
    clear c8
    have H' := Aside0.mk H
    clear H
    obtain ⟨Ao9, co9, eo9⟩ := Kd.R_slice HO_6.out
    subst eo9
    have p156 : 0 ≤ (x7_1 : Int) := of_decide_eq_true (by first | (with_reducible assumption) | assumption)
    have q156 : x7_1 < (t153.length : Int) := of_decide_eq_true (by first | (with_reducible assumption) | assumption)
    obtain ⟨ad156, e156, hx156_0⟩ := Kd.at_int (Kd.R_reads' HO_6.out).2.2 x7_1 p156 q156
    cases e156
    replace p156 := eq_true p156
    replace q156 := eq_true q156
    go_wp2_with (first | ((with_reducible refine gate_callee (f := 97) rfl ?_); refine gl_ (some 23) Tryz.func97 #[.slice A0 l0.length c0, .int .i64 (rd t153 x7_1)] ?_; (with_reducible refine cm_ (ih k1 (by have := HK1.out; omega) _ _ l0 (rd t153 x7_1) t157 _ (kc_ HR0 HB) HC0.out A7.out) ?_); intro w10 hb; refine ⟨_, rfl, ?_⟩; replace HO_6 := Aside0.mk (Kd.R_below (kR_ HO_6) hb); replace HB := ts_ HB hb; clear hb))
    go_roundg k1
    case measure => have := HK1.out; omega
    case rel => exact ⟨(t157), (wrap64 (x7_1 + 1)), rl_, rl_, H', ⟨kn_ HK1⟩, ⟨by (with_reducible repeat (first | apply Kd.R_alloc | apply Kd.R_drewN | apply Kd.R_drew)); exact HO_6.out⟩, ⟨bw_⟩⟩
   have c8b0 : decide (x5_1 < t157) = false := decide_eq_false c8
   clear c8
   have H' := Aside0.mk H
   clear H
   obtain ⟨Ao11, co11, eo11⟩ := Kd.R_slice HO_6.out
   subst eo11
   have p156 : 0 ≤ (x7_1 : Int) := of_decide_eq_true (by first | (with_reducible assumption) | assumption)
   have q156 : x7_1 < (t153.length : Int) := of_decide_eq_true (by first | (with_reducible assumption) | assumption)
   obtain ⟨ad156, e156, hx156_0⟩ := Kd.at_int (Kd.R_reads' HO_6.out).2.2 x7_1 p156 q156
   cases e156
   replace p156 := eq_true p156
   replace q156 := eq_true q156
   go_wp2_with (first | ((with_reducible refine gate_callee (f := 97) rfl ?_); refine gl_ (some 23) Tryz.func97 #[.slice A0 l0.length c0, .int .i64 (rd t153 x7_1)] ?_; (with_reducible refine cm_ (ih k1 (by have := HK1.out; omega) _ _ l0 (rd t153 x7_1) t157 _ (kc_ HR0 HB) HC0.out A7.out) ?_); intro w12 hb; refine ⟨_, rfl, ?_⟩; replace HO_6 := Aside0.mk (Kd.R_below (kR_ HO_6) hb); replace HB := ts_ HB hb; clear hb))
   go_roundg k1
   case measure => have := HK1.out; omega
   case rel => exact ⟨(x5_1), (wrap64 (x7_1 + 1)), rl_, rl_, H', ⟨kn_ HK1⟩, ⟨by (with_reducible repeat (first | apply Kd.R_alloc | apply Kd.R_drewN | apply Kd.R_drew)); exact HO_6.out⟩, ⟨bw_⟩⟩
/-! ### semblanceref05_Check: function 64 -/
def semblanceref05_Check.l0 : Nat → List (S78) → Int → Option (Int)
  | 0, _, _ => none
  | k + 1, x0, x3 => if x3 < (x0.length : Int) then (if 0 ≤ x3 then ((semblanceref05_May.f k ((rd_T78 x0 x3).f0) ((rd_T78 x0 x3).f1) ((rd_T78 x0 x3).f2)).bind fun t160 => (if t160 = true then (semblanceref05_Check.l0 k x0 (wrap64 (x3 + 1))) else (some 1))) else (none)) else ((semblanceref05_Depth.f k x0 0).bind fun t161 => (if t161 > 12 then (some 6) else (some 0)))
def semblanceref05_Check.f (k : Nat) (l0 : List (S78)) : Option (Int) := if (l0.length : Int) > 40 then (some 8) else ((semblanceref05_Whole.f k l0).bind fun t158 => (if t158 = true then (semblanceref05_Check.l0 k l0 0) else (some 1)))
theorem semblanceref05_Check.mono_l : ∀ k, (∀ y0 y1, LeO (semblanceref05_Check.l0 k y0 y1) (semblanceref05_Check.l0 (k + 1) y0 y1))
  | 0 => fun _ _ r h => by simp [semblanceref05_Check.l0] at h
  | k + 1 => by
    have ih0 := semblanceref05_Check.mono_l k
    · intro y0 y1
      unfold semblanceref05_Check.l0
      exact mo_
theorem semblanceref05_Check.mono : ∀ a0 k, LeO (semblanceref05_Check.f k a0) (semblanceref05_Check.f (k + 1) a0) := by
  intro a0 k
  have ih0 := semblanceref05_Check.mono_l k
  unfold semblanceref05_Check.f
  exact mo_
instance semblanceref05_Check.lc : ∀ a0 k, LeC (semblanceref05_Check.f k a0) (semblanceref05_Check.f (k + 1) a0) := fun a0 k => ⟨semblanceref05_Check.mono a0 k⟩
set_option maxHeartbeats 8000000 in
set_option maxRecDepth 100000 in
theorem semblanceref05_Check.calls (k : Nat) (A0 : Option Addr) (c0 : Nat) (l0 : List (S78)) (r : Int) (w : World) (hr0 : Kd.C k78 w A0 l0.length l0) (hc0 : l0.length ≤ c0) (h : semblanceref05_Check.f k l0 = some r) :
  Calls Tryz.prog 64 #[.slice A0 l0.length c0] w fun e w' => e = .returned (.int .i64 r) ∧ Below w.heap.size w w' := by
 have hu78 := Tryz.underlying78
 have HR0 := Aside0.mk hr0
 have HC0 := Aside0.mk hc0
 clear hr0 hc0
 have HB := Aside0.mk (Below.refl w.heap.size w)
 unfold semblanceref05_Check.f at h
 have H := h
 clear h
 replace H := id_ H; obtain ⟨c2, H⟩ | ⟨c2, H⟩ := H
 ·have c2b0 : decide (40 < (l0.length : Int)) = true := decide_eq_true c2
  have c2b1 : decide (40 < l0.length) = true := decide_eq_true (by omega)
  clear c2
  obtain rfl := Option.some.inj H
  go_enter Tryz.func64, Tryz.ntmps64
  go_wp2
  go_ret
  exact ⟨rv_, bw_⟩
 have c2b0 : decide (40 < (l0.length : Int)) = false := decide_eq_false c2
 have c2b1 : decide (40 < l0.length) = false := decide_eq_false (by omega)
 clear c2
 replace H := bi_ H; obtain ⟨t158, A3, H⟩ := H
 replace H := ib_ H; obtain ⟨rfl, H⟩ | ⟨rfl, H⟩ := H
 ·obtain rfl := Option.some.inj H
  go_enter Tryz.func64, Tryz.ntmps64
  go_wp2_with (first | ((with_reducible refine gate_callee (f := 95) rfl ?_); refine gl_ (some 8) Tryz.func95 #[.slice A0 l0.length c0] ?_; (with_reducible refine cm_ (semblanceref05_Whole.calls k _ _ l0 false _ (kg_ HR0.out) HC0.out A3.out) ?_); intro w16 hb; refine ⟨_, rfl, ?_⟩; replace HB := ts_ HB hb; clear hb))
  go_ret
  exact ⟨rv_, bw_⟩

 have H' := Aside0.mk H
 clear H
 go_enter Tryz.func64, Tryz.ntmps64
 go_wp2_with (first | ((with_reducible refine gate_callee (f := 95) rfl ?_); refine gl_ (some 8) Tryz.func95 #[.slice A0 l0.length c0] ?_; (with_reducible refine cm_ (semblanceref05_Whole.calls k _ _ l0 true _ (kg_ HR0.out) HC0.out A3.out) ?_); intro w5 hb; refine ⟨_, rfl, ?_⟩; replace HB := ts_ HB hb; clear hb))
 go_loopg [3] k (fun kq v3 w' => ∃ (x3_1 : Int), v3 = .int .i64 x3_1 ∧ Aside0 (semblanceref05_Check.l0 kq l0 x3_1 = some r) ∧ Aside0 (kq ≤ k) ∧ Aside0 (Below w.heap.size w w'))
 case atStart => exact ⟨(0), rl_, H', ⟨Nat.le_refl _⟩, ⟨bw_⟩⟩
 case round =>
  clear H'
  try clear c2b0
  try clear c2b1
  try clear c4
  obtain ⟨x3_1, rfl, HA, HK1, HB⟩ := hrel
  cases gk with
  | zero => exact absurd HA.out (by simp [semblanceref05_Check.l0])
  | succ k1 =>
   have H := HA.out
   clear HA
   simp only [semblanceref05_Check.l0] at H
   replace H := it_ H; obtain ⟨c6b0, H⟩ | ⟨c6b0, H⟩ := H
   ·replace H := bi_ H; obtain ⟨t161, A12, H⟩ := H
    replace H := id_ H; obtain ⟨c13, H⟩ | ⟨c13, H⟩ := H
    ·have c13b0 : decide (12 < t161) = true := decide_eq_true c13
     clear c13
     obtain rfl := Option.some.inj H
     go_wp2_with (first | ((with_reducible refine gate_callee (f := 97) rfl ?_); refine gl_ (some 23) Tryz.func97 #[.slice A0 l0.length c0, .int .i64 0] ?_; (with_reducible refine cm_ (semblanceref05_Depth.calls k1 _ _ l0 0 t161 _ (kc_ HR0 HB) HC0.out A12.out) ?_); intro w14 hb; refine ⟨_, rfl, ?_⟩; replace HB := ts_ HB hb; clear hb))
     go_ret
     exact ⟨rv_, bw_⟩
    have c13b0 : decide (12 < t161) = false := decide_eq_false c13
    clear c13
    obtain rfl := Option.some.inj H
    go_wp2_with (first | ((with_reducible refine gate_callee (f := 97) rfl ?_); refine gl_ (some 23) Tryz.func97 #[.slice A0 l0.length c0, .int .i64 0] ?_; (with_reducible refine cm_ (semblanceref05_Depth.calls k1 _ _ l0 0 t161 _ (kc_ HR0 HB) HC0.out A12.out) ?_); intro w15 hb; refine ⟨_, rfl, ?_⟩; replace HB := ts_ HB hb; clear hb))
    go_ret
    exact ⟨rv_, bw_⟩
   replace H := is_ H; obtain ⟨c7b0, H⟩ := H
   replace H := bi_ H; obtain ⟨t160, A8, H⟩ := H
   replace H := ib_ H; obtain ⟨rfl, H⟩ | ⟨rfl, H⟩ := H
   ·obtain rfl := Option.some.inj H
    obtain ⟨ad159, e159, hx159_0, hx159_1, hx159_2, p159, q159⟩ := au_T78 HR0 HB x3_1; cases e159
    go_wp2_with (first | ((with_reducible refine gate_callee (f := 96) rfl ?_); refine gl_ (some 20) Tryz.func96 #[.agg #[.int .i64 ((rd_T78 l0 x3_1).f0), .int .i64 ((rd_T78 l0 x3_1).f1), .string ((rd_T78 l0 x3_1).f2)]] ?_; (with_reducible refine cm_ (semblanceref05_May.calls k1 ((rd_T78 l0 x3_1).f0) ((rd_T78 l0 x3_1).f1) ((rd_T78 l0 x3_1).f2) false _ A8.out) ?_); intro w11 hb; refine ⟨_, rfl, ?_⟩; replace HB := ts_ HB hb; clear hb))
    go_ret
    exact ⟨rv_, bw_⟩
   have H' := Aside0.mk H
   clear H
   obtain ⟨ad159, e159, hx159_0, hx159_1, hx159_2, p159, q159⟩ := au_T78 HR0 HB x3_1; cases e159
   go_wp2_with (first | ((with_reducible refine gate_callee (f := 96) rfl ?_); refine gl_ (some 20) Tryz.func96 #[.agg #[.int .i64 ((rd_T78 l0 x3_1).f0), .int .i64 ((rd_T78 l0 x3_1).f1), .string ((rd_T78 l0 x3_1).f2)]] ?_; (with_reducible refine cm_ (semblanceref05_May.calls k1 ((rd_T78 l0 x3_1).f0) ((rd_T78 l0 x3_1).f1) ((rd_T78 l0 x3_1).f2) true _ A8.out) ?_); intro w10 hb; refine ⟨_, rfl, ?_⟩; replace HB := ts_ HB hb; clear hb))
   go_roundg k1
   case measure => have := HK1.out; omega
   case rel => exact ⟨(wrap64 (x3_1 + 1)), rl_, H', ⟨kn_ HK1⟩, ⟨bw_⟩⟩
/-! ### semblanceref08_One: function 63 -/
def semblanceref08_One.f (k : Nat) (a0_0 : ByteArray) (a0_1 : Bool) (l0_2 : List (S78)) : Option (Int) := (semblanceref02_Is.f k a0_0).bind fun t163 => (if t163 = true then (if a0_1 = true then (if (l0_2.length : Int) > 0 then (some 1) else (some 0)) else ((semblanceref05_Check.f k l0_2).bind fun t164 => (some t164))) else (some 1))
theorem semblanceref08_One.mono : ∀ a0 a1 a2 k, LeO (semblanceref08_One.f k a0 a1 a2) (semblanceref08_One.f (k + 1) a0 a1 a2) := by
  intro a0 a1 a2 k
  unfold semblanceref08_One.f
  exact mo_
instance semblanceref08_One.lc : ∀ a0 a1 a2 k, LeC (semblanceref08_One.f k a0 a1 a2) (semblanceref08_One.f (k + 1) a0 a1 a2) := fun a0 a1 a2 k => ⟨semblanceref08_One.mono a0 a1 a2 k⟩
set_option maxHeartbeats 8000000 in
set_option maxRecDepth 100000 in
theorem semblanceref08_One.calls (k : Nat) (a0_0 : ByteArray) (a0_1 : Bool) (A0_2 : Option Addr) (c0_2 : Nat) (l0_2 : List (S78)) (r : Int) (w : World) (hr0_2 : Kd.C k78 w A0_2 l0_2.length l0_2) (hc0_2 : l0_2.length ≤ c0_2) (h : semblanceref08_One.f k a0_0 a0_1 l0_2 = some r) :
  Calls Tryz.prog 63 #[.agg #[.string a0_0, .bool a0_1, .slice A0_2 l0_2.length c0_2]] w fun e w' => e = .returned (.int .i64 r) ∧ Below w.heap.size w w' := by
 have hu76 := Tryz.underlying76
 have HR0_2 := Aside0.mk hr0_2
 have HC0_2 := Aside0.mk hc0_2
 clear hr0_2 hc0_2
 have HB := Aside0.mk (Below.refl w.heap.size w)
 unfold semblanceref08_One.f at h
 have H := h
 clear h
 replace H := bi_ H; obtain ⟨t163, A2, H⟩ := H
 replace H := ib_ H; obtain ⟨rfl, H⟩ | ⟨rfl, H⟩ := H
 ·obtain rfl := Option.some.inj H
  go_enter Tryz.func63, Tryz.ntmps63
  go_wp2_with (first | ((with_reducible refine gate_dst (N := 1) rfl ?_); refine bx_ HB (N := 1) (cs := #[.string a0_0, .bool a0_1, .slice A0_2 l0_2.length c0_2]) (t := 76) ?_; clear HB; intro gb162 w20 HB BK162 GW162 GE162; obtain ⟨z21_0, z21_1, z21_2, y21_0, y21_1, y21_2⟩ := cw3_ BK162.out) | ((with_reducible refine gate_callee (f := 28) rfl ?_); refine gl_ (some 5) Tryz.func28 #[.string a0_0] ?_; (with_reducible refine cm_ (semblanceref02_Is.calls k a0_0 false _ A2.out) ?_); intro w22 hb; refine ⟨_, rfl, ?_⟩; replace BK162 := tb_ BK162 hb; replace HB := ts_ HB hb; clear hb))
  go_ret
  exact ⟨rv_, bw_⟩

 replace H := ib_ H; obtain ⟨rfl, H⟩ | ⟨rfl, H⟩ := H
 ·replace H := bi_ H; obtain ⟨t164, A14, H⟩ := H
  obtain rfl := Option.some.inj H
  go_enter Tryz.func63, Tryz.ntmps63
  go_wp2_with (first | ((with_reducible refine gate_dst (N := 1) rfl ?_); refine bx_ HB (N := 1) (cs := #[.string a0_0, .bool false, .slice A0_2 l0_2.length c0_2]) (t := 76) ?_; clear HB; intro gb162 w15 HB BK162 GW162 GE162; obtain ⟨z16_0, z16_1, z16_2, y16_0, y16_1, y16_2⟩ := cw3_ BK162.out) | ((with_reducible refine gate_callee (f := 28) rfl ?_); refine gl_ (some 5) Tryz.func28 #[.string a0_0] ?_; (with_reducible refine cm_ (semblanceref02_Is.calls k a0_0 true _ A2.out) ?_); intro w17 hb; refine ⟨_, rfl, ?_⟩; replace BK162 := tb_ BK162 hb; replace HB := ts_ HB hb; clear hb; obtain ⟨z18_0, z18_1, z18_2, y18_0, y18_1, y18_2⟩ := cw3_ BK162.out) | ((with_reducible refine gate_callee (f := 64) rfl ?_); refine gl_ (some 12) Tryz.func64 #[.slice A0_2 l0_2.length c0_2] ?_; (with_reducible refine cm_ (semblanceref05_Check.calls k _ _ l0_2 t164 _ (kc_ HR0_2 HB) HC0_2.out A14.out) ?_); intro w19 hb; refine ⟨_, rfl, ?_⟩; replace BK162 := tb_ BK162 hb; replace HB := ts_ HB hb; clear hb))
  go_ret
  exact ⟨rv_, bw_⟩
 replace H := id_ H; obtain ⟨c5, H⟩ | ⟨c5, H⟩ := H
 ·have c5b0 : decide (0 < (l0_2.length : Int)) = true := decide_eq_true c5
  have c5b1 : decide (0 < l0_2.length) = true := decide_eq_true (by omega)
  clear c5
  obtain rfl := Option.some.inj H
  go_enter Tryz.func63, Tryz.ntmps63
  go_wp2_with (first | ((with_reducible refine gate_dst (N := 1) rfl ?_); refine bx_ HB (N := 1) (cs := #[.string a0_0, .bool true, .slice A0_2 l0_2.length c0_2]) (t := 76) ?_; clear HB; intro gb162 w6 HB BK162 GW162 GE162; obtain ⟨z7_0, z7_1, z7_2, y7_0, y7_1, y7_2⟩ := cw3_ BK162.out) | ((with_reducible refine gate_callee (f := 28) rfl ?_); refine gl_ (some 5) Tryz.func28 #[.string a0_0] ?_; (with_reducible refine cm_ (semblanceref02_Is.calls k a0_0 true _ A2.out) ?_); intro w8 hb; refine ⟨_, rfl, ?_⟩; replace BK162 := tb_ BK162 hb; replace HB := ts_ HB hb; clear hb; obtain ⟨z9_0, z9_1, z9_2, y9_0, y9_1, y9_2⟩ := cw3_ BK162.out))
  go_ret
  exact ⟨rv_, bw_⟩
 have c5b0 : decide (0 < (l0_2.length : Int)) = false := decide_eq_false c5
 have c5b1 : decide (0 < l0_2.length) = false := decide_eq_false (by omega)
 clear c5
 obtain rfl := Option.some.inj H
 go_enter Tryz.func63, Tryz.ntmps63
 go_wp2_with (first | ((with_reducible refine gate_dst (N := 1) rfl ?_); refine bx_ HB (N := 1) (cs := #[.string a0_0, .bool true, .slice A0_2 l0_2.length c0_2]) (t := 76) ?_; clear HB; intro gb162 w10 HB BK162 GW162 GE162; obtain ⟨z11_0, z11_1, z11_2, y11_0, y11_1, y11_2⟩ := cw3_ BK162.out) | ((with_reducible refine gate_callee (f := 28) rfl ?_); refine gl_ (some 5) Tryz.func28 #[.string a0_0] ?_; (with_reducible refine cm_ (semblanceref02_Is.calls k a0_0 true _ A2.out) ?_); intro w12 hb; refine ⟨_, rfl, ?_⟩; replace BK162 := tb_ BK162 hb; replace HB := ts_ HB hb; clear hb; obtain ⟨z13_0, z13_1, z13_2, y13_0, y13_1, y13_2⟩ := cw3_ BK162.out))
 go_ret
 exact ⟨rv_, bw_⟩
end Go.Proofs.YtbkaiojofgmbnaaGreat.XS
