-- written by wip/xprint.py out of the translation
import Derived.Test.YtoeioigpkfgppaaXRp0
import Derived.Test.YtoeioigpkfgppaaXRp1
import Derived.Test.YtoeioigpkfgppaaXRp10
namespace Go.Proofs.Ytoeioigpkfgppaa.XR
open Go.Proofs.Ytoeioigpkfgppaa.XGrow Go.RowKit Go.Proofs.YtoeioigpkfgppaaW.PrintWords Go.Proofs.YtoeioigpkfgppaaW.PrintLast Go.Proofs.YtoeioigpkfgppaaW.PrintMore
attribute [local go_sem] max2_int min2_int max_two min_two max_three min_three max_four min_four   -- for this text's walks alone
set_option linter.unusedVariables false
set_option linter.unusedSimpArgs false

attribute [local go_sem high] eqA66
/-! ### semblancelaw14_awake: function 9 -/
def semblancelaw14_awake.f (k : Nat)  : Option (Bool) := (some (([(⟨(⟨#[97]⟩ : ByteArray), 2, (-1), ([] : List (S93)), ([] : List (S93)), (([(⟨(⟨#[]⟩ : ByteArray), ([] : List (S47)), ([] : List (S93)), (⟨#[97]⟩ : ByteArray)⟩ : S58), (⟨(⟨#[]⟩ : ByteArray), ([] : List (S47)), ([] : List (S93)), (⟨#[98]⟩ : ByteArray)⟩ : S58)] : List (S58)))⟩ : S55)] : List (S55)) : List (S55))).bind fun y220 => ((rules_Broken.f k (⟨#[99]⟩ : ByteArray) ([] : List ByteArray) ([] : List (S51)) y220 5).bind fun t224 => ((rules_Broken.f k (⟨#[99]⟩ : ByteArray) ([] : List ByteArray) ([] : List (S51)) y220 7).bind fun t227 => (if (t224.length : Int) = 1 then (if 0 < (t224.length : Int) then (if (((rd_T66 t224 0).f0) == 5 && (((rd_T66 t224 0).f1) == 0 && (((rd_T66 t224 0).f2) == 0))) = true then (if (t227.length : Int) = 1 then (if 0 < (t227.length : Int) then (if (((rd_T66 t227 0).f0) == 7 && (((rd_T66 t227 0).f1) == 0 && (((rd_T66 t227 0).f2) == 1))) = true then ((rules_Kept.f k (⟨#[99]⟩ : ByteArray) ([] : List ByteArray) ([] : List (S51)) y220 4).bind fun t232 => (if t232 = true then ((rules_Kept.f k (⟨#[99]⟩ : ByteArray) ([] : List ByteArray) ([] : List (S51)) y220 5).bind fun t233 => (some (!t233))) else (some false))) else (some false)) else (none)) else (some false)) else (some false)) else (none)) else (some false))))
theorem semblancelaw14_awake.mono : ∀ k, LeO (semblancelaw14_awake.f k ) (semblancelaw14_awake.f (k + 1) ) := by
  intro  k
  unfold semblancelaw14_awake.f
  repeat' first
      | (with_reducible exact rules_Broken.mono _ _ _ _ _ _)
      | (with_reducible exact rules_Kept.mono _ _ _ _ _ _)
      | (with_reducible exact LeO.refl _)
      | (with_reducible exact LeO.none _)
      | (with_reducible refine LeO.ite ?_ ?_)
      | (with_reducible refine LeO.bind ?_ (fun _ => ?_))
      | exact rules_Broken.mono _ _ _ _ _ _
      | exact rules_Kept.mono _ _ _ _ _ _
      | exact LeO.none _
      | refine LeO.ite ?_ ?_
      | refine LeO.bind ?_ (fun _ => ?_)
abbrev bw29_0 : Array Bool := #[false, false, false, false, false, false]
abbrev bw29_1 : Array Bool := #[true, false, false, false, false, false]
abbrev bw29_2 : Array Bool := #[true, false, true, false, false, false]
abbrev bw29_3 : Array Bool := #[true, true, true, false, false, false]
abbrev bw29_4 : Array Bool := #[true, true, true, true, false, false]
abbrev bw29_5 : Array Bool := #[true, true, true, true, true, false]
abbrev bw29_6 : Array Bool := #[true, true, true, true, true, true]
theorem bz29_ {W W2 w : World} (_ : Below W.heap.size W W2) (h : Below w.heap.size w W) : Below w.heap.size w W := h
set_option maxHeartbeats 8000000 in
set_option maxRecDepth 100000 in
theorem semblancelaw14_awake.calls (k : Nat)  (r : Bool) (w : World) (h : semblancelaw14_awake.f k  = some r) :
  Calls Try.prog 9 #[] w fun e w' => e = .returned (.bool r) ∧ Below w.heap.size w w' := by
 have hu58 := Try.underlying58
 have hu55 := Try.underlying55
 have hu26 := Try.underlying26
 have hu66 := Try.underlying66
 have HB := Aside0.mk (Below.refl w.heap.size w)
 have H : ((some (([(⟨(⟨#[97]⟩ : ByteArray), 2, (-1), ([] : List (S93)), ([] : List (S93)), (([(⟨(⟨#[]⟩ : ByteArray), ([] : List (S47)), ([] : List (S93)), (⟨#[97]⟩ : ByteArray)⟩ : S58), (⟨(⟨#[]⟩ : ByteArray), ([] : List (S47)), ([] : List (S93)), (⟨#[98]⟩ : ByteArray)⟩ : S58)] : List (S58)))⟩ : S55)] : List (S55)) : List (S55))).bind fun y220 => ((rules_Broken.f k (⟨#[99]⟩ : ByteArray) ([] : List ByteArray) ([] : List (S51)) y220 5).bind fun t224 => ((rules_Broken.f k (⟨#[99]⟩ : ByteArray) ([] : List ByteArray) ([] : List (S51)) y220 7).bind fun t227 => (if (t224.length : Int) = 1 then (if 0 < (t224.length : Int) then (if (((rd_T66 t224 0).f0) == 5 && (((rd_T66 t224 0).f1) == 0 && (((rd_T66 t224 0).f2) == 0))) = true then (if (t227.length : Int) = 1 then (if 0 < (t227.length : Int) then (if (((rd_T66 t227 0).f0) == 7 && (((rd_T66 t227 0).f1) == 0 && (((rd_T66 t227 0).f2) == 1))) = true then ((rules_Kept.f k (⟨#[99]⟩ : ByteArray) ([] : List ByteArray) ([] : List (S51)) y220 4).bind fun t232 => (if t232 = true then ((rules_Kept.f k (⟨#[99]⟩ : ByteArray) ([] : List ByteArray) ([] : List (S51)) y220 5).bind fun t233 => (some (!t233))) else (some false))) else (some false)) else (none)) else (some false)) else (some false)) else (none)) else (some false))))) = some r := h
 clear h
 obtain ⟨y217, hy217⟩ : ∃ y_ : List (S58), y_ = (([(⟨(⟨#[]⟩ : ByteArray), ([] : List (S47)), ([] : List (S93)), (⟨#[97]⟩ : ByteArray)⟩ : S58), (⟨(⟨#[]⟩ : ByteArray), ([] : List (S47)), ([] : List (S93)), (⟨#[98]⟩ : ByteArray)⟩ : S58)] : List (S58))) := ⟨_, rfl⟩
 replace H : ((some (([(⟨(⟨#[97]⟩ : ByteArray), 2, (-1), ([] : List (S93)), ([] : List (S93)), y217⟩ : S55)] : List (S55)) : List (S55))).bind fun y220 => ((rules_Broken.f k (⟨#[99]⟩ : ByteArray) ([] : List ByteArray) ([] : List (S51)) y220 5).bind fun t224 => ((rules_Broken.f k (⟨#[99]⟩ : ByteArray) ([] : List ByteArray) ([] : List (S51)) y220 7).bind fun t227 => (if (t224.length : Int) = 1 then (if 0 < (t224.length : Int) then (if (((rd_T66 t224 0).f0) == 5 && (((rd_T66 t224 0).f1) == 0 && (((rd_T66 t224 0).f2) == 0))) = true then (if (t227.length : Int) = 1 then (if 0 < (t227.length : Int) then (if (((rd_T66 t227 0).f0) == 7 && (((rd_T66 t227 0).f1) == 0 && (((rd_T66 t227 0).f2) == 1))) = true then ((rules_Kept.f k (⟨#[99]⟩ : ByteArray) ([] : List ByteArray) ([] : List (S51)) y220 4).bind fun t232 => (if t232 = true then ((rules_Kept.f k (⟨#[99]⟩ : ByteArray) ([] : List ByteArray) ([] : List (S51)) y220 5).bind fun t233 => (some (!t233))) else (some false))) else (some false)) else (none)) else (some false)) else (some false)) else (none)) else (some false))))) = some r := by first | (rw [hy217]; with_reducible exact H) | (have H2_ := (Option.bind_some _ _).symm.trans H; rw [hy217]; with_reducible exact H2_) | (have H2_ := (Option.bind_some _ _).symm.trans H; with_reducible exact H2_) | with_reducible exact H | (rw [hy217]; exact H) | exact H
 have Ny217 := Aside0.mk hy217
 clear hy217
 obtain ⟨y220, hy220⟩ : ∃ y_ : List (S55), y_ = (([(⟨(⟨#[97]⟩ : ByteArray), 2, (-1), ([] : List (S93)), ([] : List (S93)), y217⟩ : S55)] : List (S55))) := ⟨_, rfl⟩
 replace H : ((rules_Broken.f k (⟨#[99]⟩ : ByteArray) ([] : List ByteArray) ([] : List (S51)) y220 5).bind fun t224 => ((rules_Broken.f k (⟨#[99]⟩ : ByteArray) ([] : List ByteArray) ([] : List (S51)) y220 7).bind fun t227 => (if (t224.length : Int) = 1 then (if 0 < (t224.length : Int) then (if (((rd_T66 t224 0).f0) == 5 && (((rd_T66 t224 0).f1) == 0 && (((rd_T66 t224 0).f2) == 0))) = true then (if (t227.length : Int) = 1 then (if 0 < (t227.length : Int) then (if (((rd_T66 t227 0).f0) == 7 && (((rd_T66 t227 0).f1) == 0 && (((rd_T66 t227 0).f2) == 1))) = true then ((rules_Kept.f k (⟨#[99]⟩ : ByteArray) ([] : List ByteArray) ([] : List (S51)) y220 4).bind fun t232 => (if t232 = true then ((rules_Kept.f k (⟨#[99]⟩ : ByteArray) ([] : List ByteArray) ([] : List (S51)) y220 5).bind fun t233 => (some (!t233))) else (some false))) else (some false)) else (none)) else (some false)) else (some false)) else (none)) else (some false)))) = some r := by first | (rw [hy220]; with_reducible exact H) | (have H2_ := (Option.bind_some _ _).symm.trans H; rw [hy220]; with_reducible exact H2_) | (have H2_ := (Option.bind_some _ _).symm.trans H; with_reducible exact H2_) | with_reducible exact H | (rw [hy220]; exact H) | exact H
 have Ny220 := Aside0.mk hy220
 clear hy220
 replace H := Option.bind_eq_some_iff.mp H
 obtain ⟨t224, A10, H⟩ := H
 replace H : ((rules_Broken.f k (⟨#[99]⟩ : ByteArray) ([] : List ByteArray) ([] : List (S51)) y220 7).bind fun t227 => (if (t224.length : Int) = 1 then (if 0 < (t224.length : Int) then (if (((rd_T66 t224 0).f0) == 5 && (((rd_T66 t224 0).f1) == 0 && (((rd_T66 t224 0).f2) == 0))) = true then (if (t227.length : Int) = 1 then (if 0 < (t227.length : Int) then (if (((rd_T66 t227 0).f0) == 7 && (((rd_T66 t227 0).f1) == 0 && (((rd_T66 t227 0).f2) == 1))) = true then ((rules_Kept.f k (⟨#[99]⟩ : ByteArray) ([] : List ByteArray) ([] : List (S51)) y220 4).bind fun t232 => (if t232 = true then ((rules_Kept.f k (⟨#[99]⟩ : ByteArray) ([] : List ByteArray) ([] : List (S51)) y220 5).bind fun t233 => (some (!t233))) else (some false))) else (some false)) else (none)) else (some false)) else (some false)) else (none)) else (some false))) = some r := H
 have A1 := Aside0.mk A10
 clear A10
 replace H := Option.bind_eq_some_iff.mp H
 obtain ⟨t227, A20, H⟩ := H
 replace H : (if (t224.length : Int) = 1 then (if 0 < (t224.length : Int) then (if (((rd_T66 t224 0).f0) == 5 && (((rd_T66 t224 0).f1) == 0 && (((rd_T66 t224 0).f2) == 0))) = true then (if (t227.length : Int) = 1 then (if 0 < (t227.length : Int) then (if (((rd_T66 t227 0).f0) == 7 && (((rd_T66 t227 0).f1) == 0 && (((rd_T66 t227 0).f2) == 1))) = true then ((rules_Kept.f k (⟨#[99]⟩ : ByteArray) ([] : List ByteArray) ([] : List (S51)) y220 4).bind fun t232 => (if t232 = true then ((rules_Kept.f k (⟨#[99]⟩ : ByteArray) ([] : List ByteArray) ([] : List (S51)) y220 5).bind fun t233 => (some (!t233))) else (some false))) else (some false)) else (none)) else (some false)) else (some false)) else (none)) else (some false)) = some r := H
 have A2 := Aside0.mk A20
 clear A20
 by_cases c3 : (t224.length : Int) = 1
 rotate_left
 ·rw [if_neg c3] at H
  have c3b0 : ((t224.length : Int) == 1) = false := beq_eq_false_iff_ne.mpr c3
  have c3b1 : ((t224.length : Int) != 1) = true := bne_iff_ne.mpr c3
  obtain rfl := Option.some.inj H
  go_enter Try.func9, Try.ntmps9
  try go_wp2_with (first | ((with_reducible refine gate_dst (N := 6) rfl ?_); (try (refine gate_guard (by rfl) ?_; dsimp only)); refine Kd.N_lit k58 _ 58 ?hg (N' := 6) ?hd (xs := ([(⟨(⟨#[]⟩ : ByteArray), ([] : List (S47)), ([] : List (S93)), (⟨#[97]⟩ : ByteArray)⟩ : S58), (⟨(⟨#[]⟩ : ByteArray), ([] : List (S47)), ([] : List (S93)), (⟨#[98]⟩ : ByteArray)⟩ : S58)] : List (S58))) (inner := [.string (⟨#[]⟩ : ByteArray), .slice none 0 0, .slice none 0 0, .string (⟨#[97]⟩ : ByteArray), .string (⟨#[]⟩ : ByteArray), .slice none 0 0, .slice none 0 0, .string (⟨#[98]⟩ : ByteArray)]) (ok := (fun _ => True)) (okp := (fun _ => True)) ?hr ?hp (fun _ hk => hk) ((show ∀ k_, w.heap.size ≤ k_ → (fun _ => True) k_ from fun k_ hk => trivial) _ (Nat.le_refl _)) (Below.refl _ _) (Nat.le_refl _) (by simp) ?_; (case hd => rfl); (case hg => rfl); (case hr => first | (go_simp; done) | (go_simp; rfl)); (case hp => exact (Reps.c4 (show Kd.FK k58 _ _ (⟨(⟨#[]⟩ : ByteArray), ([] : List (S47)), ([] : List (S93)), (⟨#[97]⟩ : ByteArray)⟩ : S58) [.string (⟨#[]⟩ : ByteArray), .slice none 0 0, .slice none 0 0, .string (⟨#[97]⟩ : ByteArray)] from (k58_mkF _ _ (⟨(⟨#[]⟩ : ByteArray), ([] : List (S47)), ([] : List (S93)), (⟨#[97]⟩ : ByteArray)⟩ : S58) (Nat.le_refl _) (Kd.F_nil _ _ _) (Nat.le_refl _) (Kd.F_nil _ _ _))) (Reps.c4 (show Kd.FK k58 _ _ (⟨(⟨#[]⟩ : ByteArray), ([] : List (S47)), ([] : List (S93)), (⟨#[98]⟩ : ByteArray)⟩ : S58) [.string (⟨#[]⟩ : ByteArray), .slice none 0 0, .slice none 0 0, .string (⟨#[98]⟩ : ByteArray)] from (k58_mkF _ _ (⟨(⟨#[]⟩ : ByteArray), ([] : List (S47)), ([] : List (S93)), (⟨#[98]⟩ : ByteArray)⟩ : S58) (Nat.le_refl _) (Kd.F_nil _ _ _) (Nat.le_refl _) (Kd.F_nil _ _ _))) (Reps.none _ _)))); intro v218 w87 ho88 hb hg_ hnew_; clear hg_ hnew_; (first | rw [← Ny217.out] at ho88 | (simp only [Int.reduceToNat] at ho88; rw [← Ny217.out] at ho88)); have n0_ := Aside0.mk (Kd.N_lower ho88 (below_size (brw HB.out))); have n1_ := Aside0.mk (below_step (brw HB.out) hb); clear HB; have HO219 := n0_; have HB := n1_; clear n0_ n1_; clear hb ho88; obtain ⟨Ao89, co89, eo89⟩ := Kd.N_slice HO219.out; subst eo89) | ((with_reducible refine gate_dst (N := 8) rfl ?_); (try (refine gate_guard (by rfl) ?_; dsimp only)); refine Kd.N_lit k55 _ 55 ?hg (N' := 8) ?hd (xs := ([(⟨(⟨#[97]⟩ : ByteArray), 2, (-1), ([] : List (S93)), ([] : List (S93)), y217⟩ : S55)] : List (S55))) (inner := [.string (⟨#[97]⟩ : ByteArray), .int .i64 2, .int .i64 (-1), .slice none 0 0, .slice none 0 0, .slice Ao89 y217.length co89]) (ok := (fun _ => True)) (okp := (fun _ => True)) ?hr ?hp (fun _ hk => hk) ((show ∀ k_, w87.heap.size ≤ k_ → (fun _ => True) k_ from fun k_ hk => trivial) _ (Nat.le_refl _)) (Below.refl _ _) (Nat.le_refl _) (by simp) ?_; (case hd => rfl); (case hg => rfl); (case hr => first | (go_simp; done) | (go_simp; rfl)); (case hp => exact (Reps.c6 (show Kd.FK k55 _ _ (⟨(⟨#[97]⟩ : ByteArray), 2, (-1), ([] : List (S93)), ([] : List (S93)), y217⟩ : S55) [.string (⟨#[97]⟩ : ByteArray), .int .i64 2, .int .i64 (-1), .slice none 0 0, .slice none 0 0, .slice Ao89 y217.length co89] from (k55_mkF _ _ (⟨(⟨#[97]⟩ : ByteArray), 2, (-1), ([] : List (S93)), ([] : List (S93)), y217⟩ : S55) (Nat.le_refl _) (Kd.F_nil _ _ _) (Nat.le_refl _) (Kd.F_nil _ _ _) (Kd.N_reads' (Kd.N_mono (ok' := (fun _ => True)) (HO219.out) (fun k_ hk => trivial))).2.1 (Kd.N_F (Kd.N_mono (ok' := (fun _ => True)) (HO219.out) (fun k_ hk => trivial))))) (Reps.none _ _))); intro v221 w90 ho91 hb hg_ hnew_; clear hg_ hnew_; (first | rw [← Ny220.out] at ho91 | (simp only [Int.reduceToNat] at ho91; rw [← Ny220.out] at ho91)); have n0_ := Aside0.mk (Kd.N_lower ho91 (below_size (brw HB.out))); have n1_ := Aside0.mk (below_step (brw HB.out) hb); clear HB; clear HO219; have HO222 := n0_; have HB := n1_; clear n0_ n1_; clear hb ho91; obtain ⟨Ao92, co92, eo92⟩ := Kd.N_slice HO222.out; subst eo92) | ((with_reducible refine gate_dst (N := 1) rfl ?_); (try (refine gate_guard (by rfl) ?_; dsimp only)); refine box_event ?hg (N := 1) ?hd (cs := #[.string (⟨#[]⟩ : ByteArray), .slice none 0 0, .slice none 0 0, .slice none 0 0]) (t := 26) ?hr ?_; (case hd => rfl); (case hg => rfl); (case hr => first | (go_simp; done) | (go_simp; rfl)); intro gb223 hg w93 hbox hb; have hB_ := bz29_ hb (brw HB.out); have n0_ := Aside0.mk (Kd.N_below (Kd.N_elderB (by (with_reducible repeat (first | apply Kd.N_alloc | apply Kd.N_drewN | apply Kd.N_drew)); exact HO222.out) gb223 (Nat.le_of_eq hg.symm)) hb); have n1_ := Aside0.mk (below_step hB_ hb); have n2_ := Aside0.mk (hbox); have n3_ := Aside0.mk ((by rw [hg]; exact (below_size hB_) : w.heap.size ≤ gb223)); have n4_ := Aside0.mk ((by rw [hg]; exact (below_size hB_) : w.heap.size ≤ gb223)); clear HO222; clear HB; have HO222 := n0_; have HB := n1_; have BK223 := n2_; have GW223 := n3_; have GE223 := n4_; clear n0_ n1_ n2_ n3_ n4_; clear hb hbox hg; obtain ⟨hcz94_0, hcz94_1, hcz94_2, hcz94_3⟩ := cz4_ BK223.out; obtain ⟨hfz94_0, hfz94_1, hfz94_2, hfz94_3⟩ := cf4_ BK223.out))
  have n0_ : Aside0 (Kd.N k55 55 ((((w93.setCell ⟨gb223, 0, none⟩ (.string (⟨#[99]⟩ : ByteArray))).setCell ⟨gb223, 1, none⟩ (.slice none 0 0)).setCell ⟨gb223, 2, none⟩ (.slice none 0 0)).setCell ⟨gb223, 3, none⟩ (.slice Ao92 y220.length co92)) w.heap.size (fun k_ => k_ ≠ gb223) (.slice Ao92 y220.length co92) y220) := ⟨by (with_reducible repeat (first | apply Kd.N_alloc | apply Kd.N_drewN | apply Kd.N_drew)); exact Kd.N_mono (Kd.N_far (p := ⟨gb223, 3, none⟩) (Kd.N_far (p := ⟨gb223, 2, none⟩) (Kd.N_far (p := ⟨gb223, 1, none⟩) (Kd.N_far (p := ⟨gb223, 0, none⟩) (Kd.N_mono HO222.out (fun k_ hk => (⟨hk, hk.2⟩ : _ ∧ k_ ≠ gb223))) (fun _ hk => hk.2) (.string (⟨#[99]⟩ : ByteArray))) (fun _ hk => hk.2) (.slice none 0 0)) (fun _ hk => hk.2) (.slice none 0 0)) (fun _ hk => hk.2) (.slice Ao92 y220.length co92)) (fun _ hk => hk.1.2)⟩
  have n1_ : Aside0 (((((w93.setCell ⟨gb223, 0, none⟩ (.string (⟨#[99]⟩ : ByteArray))).setCell ⟨gb223, 1, none⟩ (.slice none 0 0)).setCell ⟨gb223, 2, none⟩ (.slice none 0 0)).setCell ⟨gb223, 3, none⟩ (.slice Ao92 y220.length co92)).heap[gb223]? = some (.cells #[.string (⟨#[99]⟩ : ByteArray), .slice none 0 0, .slice none 0 0, .slice Ao92 y220.length co92] 26 (0, 0))) := ⟨by refine grO ?_; refine blk_put (cs := #[.string (⟨#[99]⟩ : ByteArray), .slice none 0 0, .slice none 0 0, .slice none 0 0]) ?_ 3 _ rfl; refine grO ?_; refine blk_put (cs := #[.string (⟨#[99]⟩ : ByteArray), .slice none 0 0, .slice none 0 0, .slice none 0 0]) ?_ 2 _ rfl; refine grO ?_; refine blk_put (cs := #[.string (⟨#[99]⟩ : ByteArray), .slice none 0 0, .slice none 0 0, .slice none 0 0]) ?_ 1 _ rfl; refine grO ?_; refine blk_put (cs := #[.string (⟨#[]⟩ : ByteArray), .slice none 0 0, .slice none 0 0, .slice none 0 0]) ?_ 0 _ rfl; refine grO ?_; exact BK223.out⟩
  have n2_ : Aside0 (Below w.heap.size w ((((w93.setCell ⟨gb223, 0, none⟩ (.string (⟨#[99]⟩ : ByteArray))).setCell ⟨gb223, 1, none⟩ (.slice none 0 0)).setCell ⟨gb223, 2, none⟩ (.slice none 0 0)).setCell ⟨gb223, 3, none⟩ (.slice Ao92 y220.length co92))) := ⟨by repeat (first | (with_reducible first | exact HB.out | apply below_alloc | apply pw_below_drewN | apply below_drew1 | refine below_set ?_ GE223.out) | exact HB.out)⟩
  (try clear HO222)
  (try clear BK223)
  (try clear HB)
  generalize ((((w93.setCell ⟨gb223, 0, none⟩ (.string (⟨#[99]⟩ : ByteArray))).setCell ⟨gb223, 1, none⟩ (.slice none 0 0)).setCell ⟨gb223, 2, none⟩ (.slice none 0 0)).setCell ⟨gb223, 3, none⟩ (.slice Ao92 y220.length co92)) = w95 at n0_ n1_ n2_ ⊢
  have HO222 := n0_
  have BK223 := n1_
  have HB := n2_
  clear n0_ n1_ n2_
  have n0_ := Aside0.mk (Kd.N_drew HO222.out)
  have n1_ := Aside0.mk (blk_drew BK223.out)
  have n2_ := Aside0.mk (below_drew1 HB.out)
  clear HO222
  clear BK223
  clear HB
  have HO222 := n0_
  have BK223 := n1_
  have HB := n2_
  clear n0_ n1_ n2_
  refine start_ (n := 6) (S := fun w' => w'.cell? ⟨gb223, 0, none⟩ = some (.string (⟨#[99]⟩ : ByteArray)) ∧ w'.cell? ⟨gb223, 1, none⟩ = some (.slice none 0 0) ∧ w'.cell? ⟨gb223, 2, none⟩ = some (.slice none 0 0) ∧ w'.cell? ⟨gb223, 3, none⟩ = some (.slice Ao92 y220.length co92)) (ds := []) bw29_0 (by kernel_rfl) rfl rfl ⟨(blk_cell BK223.out 0).trans rfl, (blk_cell BK223.out 1).trans rfl, (blk_cell BK223.out 2).trans rfl, (blk_cell BK223.out 3).trans rfl⟩ (fun hHeld => ?_)
  generalize w95.drew = w96 at HO222 BK223 HB hHeld ⊢
  refine take_ (i := 0) (N := some 10) (v := ?_) (a' := ?_) bw29_1 rfl rfl (by kernel_rfl) (fun _ _ _ h => h) (Or.inl ⟨by rfl, ?_⟩) hHeld ?_ ?_
  rotate_left
  ·rintro w' ⟨s0, s1, s2, s3⟩
   go_simp
   with_reducible rfl
  rotate_left
  ·simp only [Act.put, sb_, s0_, s1_, i64_w, i32_w]
   rfl
  refine take_ (i := 2) (N := some 12) (v := ?_) (a' := ?_) bw29_2 rfl rfl (by kernel_rfl) (fun _ _ _ h => h) (Or.inl ⟨by rfl, ?_⟩) hHeld ?_ ?_
  rotate_left
  ·rintro w' ⟨s0, s1, s2, s3⟩
   go_simp
   with_reducible rfl
  rotate_left
  ·simp only [Act.put, sb_, s0_, s1_, i64_w, i32_w]
   rfl
  refine one_ (i := 1) (N := some 11) bw29_3 rfl rfl (by kernel_rfl) (by decide) (fun K hK => ?_)
  refine goes_ Try.func10 (by kernel_rfl) rfl #[.agg #[.string (⟨#[99]⟩ : ByteArray), .slice none 0 0, .slice none 0 0, .slice Ao92 y220.length co92], .int .i64 5] (by rfl) rfl rfl (by (try simp only [List.map_toArray, List.map_cons, List.map_nil]); first | done | rfl | (simp only [List.length_drop, List.length_take]; rfl)) ?_
  refine (rules_Broken.calls k (⟨#[99]⟩ : ByteArray) _ _ ([] : List ByteArray) _ _ ([] : List (S51)) _ _ y220 5 t224 _ ?side1 ?side2 ?side3 ?side4 ?side5 ?side6 A1.out).mono ?_
  (case side1 => exact Kd.C_nil _ _)
  (case side2 => exact Nat.le_refl _)
  (case side3 => exact Kd.C_nil _ _)
  (case side4 => exact Nat.le_refl _)
  (case side5 => repeat (first | exact (Kd.N_reads' HO222.out).2.2 | (with_reducible refine Kd.C_alloc ?_ _) | (with_reducible refine Kd.C_drewN ?_ _) | (with_reducible refine Kd.C_drew ?_)))
  (case side6 => exact (Kd.N_reads' HO222.out).2.1)
  rintro e w97 ⟨v225, rfl, ho0, hb⟩
  refine ⟨_, rfl, ?_⟩
  have n0_ := Aside0.mk (Kd.N_elder' (by (with_reducible repeat (first | apply Kd.N_alloc | apply Kd.N_drewN | apply Kd.N_drew)); exact HO222.out) (Kd.R_base ho0) hb)
  have n1_ := Aside0.mk (Kd.R_lower ho0 (below_size (by repeat (first | (with_reducible first | exact HB.out | apply below_alloc | apply pw_below_drewN | apply below_drew1 | refine below_set ?_ GE223.out) | exact HB.out))))
  have n2_ := Aside0.mk (blk_below (g := gb223) (o := .cells #[.string (⟨#[99]⟩ : ByteArray), .slice none 0 0, .slice none 0 0, .slice Ao92 y220.length co92] 26 (0, 0)) (grw BK223.out) hb)
  have n3_ := Aside0.mk (below_step (by repeat (first | (with_reducible first | exact HB.out | apply below_alloc | apply pw_below_drewN | apply below_drew1 | refine below_set ?_ GE223.out) | exact HB.out)) hb)
  clear HO222
  clear BK223
  clear HB
  have HO222 := n0_
  have HO226 := n1_
  have BK223 := n2_
  have HB := n3_
  clear n0_ n1_ n2_ n3_
  (try clear hb)
  (try clear hb2)
  (try clear hk)
  (try clear hi)
  (try clear ho0)
  refine hK.out _ _ ⟨(blk_cell BK223.out 0).trans rfl, (blk_cell BK223.out 1).trans rfl, (blk_cell BK223.out 2).trans rfl, (blk_cell BK223.out 3).trans rfl⟩ (fun hHeld => ?_)
  clear hK K
  refine norm_ (a' := ?_) ?_ ?_
  rotate_left
  ·show Act.put _ (some 11) _ = _
   simp only [Act.put, sb_, s0_, s1_, i64_w, i32_w]
   rfl
  refine one_ (i := 3) (N := some 13) bw29_4 rfl rfl (by kernel_rfl) (by decide) (fun K hK => ?_)
  refine goes_ Try.func10 (by kernel_rfl) rfl #[.agg #[.string (⟨#[99]⟩ : ByteArray), .slice none 0 0, .slice none 0 0, .slice Ao92 y220.length co92], .int .i64 7] (by rfl) rfl rfl (by (try simp only [List.map_toArray, List.map_cons, List.map_nil]); first | done | rfl | (simp only [List.length_drop, List.length_take]; rfl)) ?_
  refine (rules_Broken.calls k (⟨#[99]⟩ : ByteArray) _ _ ([] : List ByteArray) _ _ ([] : List (S51)) _ _ y220 7 t227 _ ?side1 ?side2 ?side3 ?side4 ?side5 ?side6 A2.out).mono ?_
  (case side1 => exact Kd.C_nil _ _)
  (case side2 => exact Nat.le_refl _)
  (case side3 => exact Kd.C_nil _ _)
  (case side4 => exact Nat.le_refl _)
  (case side5 => repeat (first | exact (Kd.N_reads' HO222.out).2.2 | (with_reducible refine Kd.C_alloc ?_ _) | (with_reducible refine Kd.C_drewN ?_ _) | (with_reducible refine Kd.C_drew ?_)))
  (case side6 => exact (Kd.N_reads' HO222.out).2.1)
  rintro e w98 ⟨v228, rfl, ho0, hb⟩
  refine ⟨_, rfl, ?_⟩
  have n0_ := Aside0.mk (Kd.N_elder' (by (with_reducible repeat (first | apply Kd.N_alloc | apply Kd.N_drewN | apply Kd.N_drew)); exact HO222.out) (Kd.R_base ho0) hb)
  have n1_ := Aside0.mk (Kd.R_elder' (by (with_reducible repeat (first | apply Kd.R_alloc | apply Kd.R_drewN | apply Kd.R_drew)); exact HO226.out) (Kd.R_base ho0) hb)
  have n2_ := Aside0.mk (Kd.R_lower (Kd.R_new' ho0 (Kd.R_lt (by (with_reducible repeat (first | apply Kd.R_alloc | apply Kd.R_drewN | apply Kd.R_drew)); exact HO226.out))) (below_size (by repeat (first | (with_reducible first | exact HB.out | apply below_alloc | apply pw_below_drewN | apply below_drew1 | refine below_set ?_ GE223.out) | exact HB.out))))
  have n3_ := Aside0.mk (blk_below (g := gb223) (o := .cells #[.string (⟨#[99]⟩ : ByteArray), .slice none 0 0, .slice none 0 0, .slice Ao92 y220.length co92] 26 (0, 0)) (grw BK223.out) hb)
  have n4_ := Aside0.mk (below_step (by repeat (first | (with_reducible first | exact HB.out | apply below_alloc | apply pw_below_drewN | apply below_drew1 | refine below_set ?_ GE223.out) | exact HB.out)) hb)
  clear HO222
  clear HO226
  clear BK223
  clear HB
  have HO222 := n0_
  have HO226 := n1_
  have HO229 := n2_
  have BK223 := n3_
  have HB := n4_
  clear n0_ n1_ n2_ n3_ n4_
  (try clear hb)
  (try clear hb2)
  (try clear hk)
  (try clear hi)
  (try clear ho0)
  refine hK.out _ _ ⟨(blk_cell BK223.out 0).trans rfl, (blk_cell BK223.out 1).trans rfl, (blk_cell BK223.out 2).trans rfl, (blk_cell BK223.out 3).trans rfl⟩ (fun hHeld => ?_)
  clear hK K
  refine norm_ (a' := ?_) ?_ ?_
  rotate_left
  ·show Act.put _ (some 13) _ = _
   simp only [Act.put, sb_, s0_, s1_, i64_w, i32_w]
   rfl
  refine pure_ (i := 4) (N := some 2) (v := ?_) (a' := ?_) bw29_5 rfl rfl (by kernel_rfl) (fun _ _ _ h => h) (Or.inl ⟨by rfl, ?_⟩) ?_ ?_
  rotate_left
  ·intro w'
   go_simp
   with_reducible rfl
  rotate_left
  ·simp only [Act.put, sb_, s0_, s1_, i64_w, i32_w]
   rfl
  refine pure_ (i := 5) (N := some 3) (v := ?_) (a' := ?_) bw29_6 rfl rfl (by kernel_rfl) (fun _ _ _ h => h) (Or.inl ⟨by rfl, ?_⟩) ?_ ?_
  rotate_left
  ·intro w'
   go_simp
   with_reducible rfl
  rotate_left
  ·simp only [Act.put, sb_, s0_, s1_, i64_w, i32_w]
   rfl
  refine done_ (by kernel_rfl) ?_
  obtain ⟨Ao99, co99, eo99⟩ := Kd.R_slice HO226.out
  subst eo99
  try go_wp2
  go_ret
  exact ⟨by first | rfl | (simp [errW_none, errW_some] <;> rfl) | (simp [*, errW_none, errW_some] <;> rfl), by repeat (first | (with_reducible first | exact HB.out | apply below_alloc | apply pw_below_drewN | apply below_drew1 | refine below_set ?_ GE223.out) | exact HB.out)⟩

 rw [if_pos c3] at H
 have c3b0 : ((t224.length : Int) == 1) = true := beq_iff_eq.mpr c3
 have c3b1 : ((t224.length : Int) != 1) = false := bne_eq_false_iff_eq.mpr c3
 clear c3
 by_cases c4 : 0 < (t224.length : Int)
 rotate_left
 ·rw [if_neg c4] at H
  exact absurd H (by simp)
 rw [if_pos c4] at H
 have c4b0 : decide (0 < (t224.length : Int)) = true := decide_eq_true c4
 have c4b1 : decide (0 < t224.length) = true := decide_eq_true (by omega)
 clear c4
 by_cases c5 : (((rd_T66 t224 0).f0) == 5 && (((rd_T66 t224 0).f1) == 0 && (((rd_T66 t224 0).f2) == 0))) = true
 rotate_left
 ·rw [if_neg c5] at H
  have c5b0 : (((rd_T66 t224 0).f0) == 5 && (((rd_T66 t224 0).f1) == 0 && (((rd_T66 t224 0).f2) == 0))) = false := by simpa using c5
  (try (have c5b1 : decide (((rd_T66 t224 0).f0) = 5 && (((rd_T66 t224 0).f1) == 0 && (((rd_T66 t224 0).f2) == 0))) = false := by simpa using c5))
  (try (have c5b2 : (((rd_T66 t224 0).f0) == 5 && (((rd_T66 t224 0).f1) == 0 && (((rd_T66 t224 0).f2) == 0))) = false := by simpa using c5))
  (try (have c5b3 : ¬ (((rd_T66 t224 0).f0) = 5 && (((rd_T66 t224 0).f1) == 0 && (((rd_T66 t224 0).f2) == 0))) := by simpa using c5))
  clear c5
  obtain rfl := Option.some.inj H
  go_enter Try.func9, Try.ntmps9
  try go_wp2_with (first | ((with_reducible refine gate_dst (N := 6) rfl ?_); (try (refine gate_guard (by rfl) ?_; dsimp only)); refine Kd.N_lit k58 _ 58 ?hg (N' := 6) ?hd (xs := ([(⟨(⟨#[]⟩ : ByteArray), ([] : List (S47)), ([] : List (S93)), (⟨#[97]⟩ : ByteArray)⟩ : S58), (⟨(⟨#[]⟩ : ByteArray), ([] : List (S47)), ([] : List (S93)), (⟨#[98]⟩ : ByteArray)⟩ : S58)] : List (S58))) (inner := [.string (⟨#[]⟩ : ByteArray), .slice none 0 0, .slice none 0 0, .string (⟨#[97]⟩ : ByteArray), .string (⟨#[]⟩ : ByteArray), .slice none 0 0, .slice none 0 0, .string (⟨#[98]⟩ : ByteArray)]) (ok := (fun _ => True)) (okp := (fun _ => True)) ?hr ?hp (fun _ hk => hk) ((show ∀ k_, w.heap.size ≤ k_ → (fun _ => True) k_ from fun k_ hk => trivial) _ (Nat.le_refl _)) (Below.refl _ _) (Nat.le_refl _) (by simp) ?_; (case hd => rfl); (case hg => rfl); (case hr => first | (go_simp; done) | (go_simp; rfl)); (case hp => exact (Reps.c4 (show Kd.FK k58 _ _ (⟨(⟨#[]⟩ : ByteArray), ([] : List (S47)), ([] : List (S93)), (⟨#[97]⟩ : ByteArray)⟩ : S58) [.string (⟨#[]⟩ : ByteArray), .slice none 0 0, .slice none 0 0, .string (⟨#[97]⟩ : ByteArray)] from (k58_mkF _ _ (⟨(⟨#[]⟩ : ByteArray), ([] : List (S47)), ([] : List (S93)), (⟨#[97]⟩ : ByteArray)⟩ : S58) (Nat.le_refl _) (Kd.F_nil _ _ _) (Nat.le_refl _) (Kd.F_nil _ _ _))) (Reps.c4 (show Kd.FK k58 _ _ (⟨(⟨#[]⟩ : ByteArray), ([] : List (S47)), ([] : List (S93)), (⟨#[98]⟩ : ByteArray)⟩ : S58) [.string (⟨#[]⟩ : ByteArray), .slice none 0 0, .slice none 0 0, .string (⟨#[98]⟩ : ByteArray)] from (k58_mkF _ _ (⟨(⟨#[]⟩ : ByteArray), ([] : List (S47)), ([] : List (S93)), (⟨#[98]⟩ : ByteArray)⟩ : S58) (Nat.le_refl _) (Kd.F_nil _ _ _) (Nat.le_refl _) (Kd.F_nil _ _ _))) (Reps.none _ _)))); intro v218 w74 ho75 hb hg_ hnew_; clear hg_ hnew_; (first | rw [← Ny217.out] at ho75 | (simp only [Int.reduceToNat] at ho75; rw [← Ny217.out] at ho75)); have n0_ := Aside0.mk (Kd.N_lower ho75 (below_size (brw HB.out))); have n1_ := Aside0.mk (below_step (brw HB.out) hb); clear HB; have HO219 := n0_; have HB := n1_; clear n0_ n1_; clear hb ho75; obtain ⟨Ao76, co76, eo76⟩ := Kd.N_slice HO219.out; subst eo76) | ((with_reducible refine gate_dst (N := 8) rfl ?_); (try (refine gate_guard (by rfl) ?_; dsimp only)); refine Kd.N_lit k55 _ 55 ?hg (N' := 8) ?hd (xs := ([(⟨(⟨#[97]⟩ : ByteArray), 2, (-1), ([] : List (S93)), ([] : List (S93)), y217⟩ : S55)] : List (S55))) (inner := [.string (⟨#[97]⟩ : ByteArray), .int .i64 2, .int .i64 (-1), .slice none 0 0, .slice none 0 0, .slice Ao76 y217.length co76]) (ok := (fun _ => True)) (okp := (fun _ => True)) ?hr ?hp (fun _ hk => hk) ((show ∀ k_, w74.heap.size ≤ k_ → (fun _ => True) k_ from fun k_ hk => trivial) _ (Nat.le_refl _)) (Below.refl _ _) (Nat.le_refl _) (by simp) ?_; (case hd => rfl); (case hg => rfl); (case hr => first | (go_simp; done) | (go_simp; rfl)); (case hp => exact (Reps.c6 (show Kd.FK k55 _ _ (⟨(⟨#[97]⟩ : ByteArray), 2, (-1), ([] : List (S93)), ([] : List (S93)), y217⟩ : S55) [.string (⟨#[97]⟩ : ByteArray), .int .i64 2, .int .i64 (-1), .slice none 0 0, .slice none 0 0, .slice Ao76 y217.length co76] from (k55_mkF _ _ (⟨(⟨#[97]⟩ : ByteArray), 2, (-1), ([] : List (S93)), ([] : List (S93)), y217⟩ : S55) (Nat.le_refl _) (Kd.F_nil _ _ _) (Nat.le_refl _) (Kd.F_nil _ _ _) (Kd.N_reads' (Kd.N_mono (ok' := (fun _ => True)) (HO219.out) (fun k_ hk => trivial))).2.1 (Kd.N_F (Kd.N_mono (ok' := (fun _ => True)) (HO219.out) (fun k_ hk => trivial))))) (Reps.none _ _))); intro v221 w77 ho78 hb hg_ hnew_; clear hg_ hnew_; (first | rw [← Ny220.out] at ho78 | (simp only [Int.reduceToNat] at ho78; rw [← Ny220.out] at ho78)); have n0_ := Aside0.mk (Kd.N_lower ho78 (below_size (brw HB.out))); have n1_ := Aside0.mk (below_step (brw HB.out) hb); clear HB; clear HO219; have HO222 := n0_; have HB := n1_; clear n0_ n1_; clear hb ho78; obtain ⟨Ao79, co79, eo79⟩ := Kd.N_slice HO222.out; subst eo79) | ((with_reducible refine gate_dst (N := 1) rfl ?_); (try (refine gate_guard (by rfl) ?_; dsimp only)); refine box_event ?hg (N := 1) ?hd (cs := #[.string (⟨#[]⟩ : ByteArray), .slice none 0 0, .slice none 0 0, .slice none 0 0]) (t := 26) ?hr ?_; (case hd => rfl); (case hg => rfl); (case hr => first | (go_simp; done) | (go_simp; rfl)); intro gb223 hg w80 hbox hb; have hB_ := bz29_ hb (brw HB.out); have n0_ := Aside0.mk (Kd.N_below (Kd.N_elderB (by (with_reducible repeat (first | apply Kd.N_alloc | apply Kd.N_drewN | apply Kd.N_drew)); exact HO222.out) gb223 (Nat.le_of_eq hg.symm)) hb); have n1_ := Aside0.mk (below_step hB_ hb); have n2_ := Aside0.mk (hbox); have n3_ := Aside0.mk ((by rw [hg]; exact (below_size hB_) : w.heap.size ≤ gb223)); have n4_ := Aside0.mk ((by rw [hg]; exact (below_size hB_) : w.heap.size ≤ gb223)); clear HO222; clear HB; have HO222 := n0_; have HB := n1_; have BK223 := n2_; have GW223 := n3_; have GE223 := n4_; clear n0_ n1_ n2_ n3_ n4_; clear hb hbox hg; obtain ⟨hcz81_0, hcz81_1, hcz81_2, hcz81_3⟩ := cz4_ BK223.out; obtain ⟨hfz81_0, hfz81_1, hfz81_2, hfz81_3⟩ := cf4_ BK223.out))
  have n0_ : Aside0 (Kd.N k55 55 ((((w80.setCell ⟨gb223, 0, none⟩ (.string (⟨#[99]⟩ : ByteArray))).setCell ⟨gb223, 1, none⟩ (.slice none 0 0)).setCell ⟨gb223, 2, none⟩ (.slice none 0 0)).setCell ⟨gb223, 3, none⟩ (.slice Ao79 y220.length co79)) w.heap.size (fun k_ => k_ ≠ gb223) (.slice Ao79 y220.length co79) y220) := ⟨by (with_reducible repeat (first | apply Kd.N_alloc | apply Kd.N_drewN | apply Kd.N_drew)); exact Kd.N_mono (Kd.N_far (p := ⟨gb223, 3, none⟩) (Kd.N_far (p := ⟨gb223, 2, none⟩) (Kd.N_far (p := ⟨gb223, 1, none⟩) (Kd.N_far (p := ⟨gb223, 0, none⟩) (Kd.N_mono HO222.out (fun k_ hk => (⟨hk, hk.2⟩ : _ ∧ k_ ≠ gb223))) (fun _ hk => hk.2) (.string (⟨#[99]⟩ : ByteArray))) (fun _ hk => hk.2) (.slice none 0 0)) (fun _ hk => hk.2) (.slice none 0 0)) (fun _ hk => hk.2) (.slice Ao79 y220.length co79)) (fun _ hk => hk.1.2)⟩
  have n1_ : Aside0 (((((w80.setCell ⟨gb223, 0, none⟩ (.string (⟨#[99]⟩ : ByteArray))).setCell ⟨gb223, 1, none⟩ (.slice none 0 0)).setCell ⟨gb223, 2, none⟩ (.slice none 0 0)).setCell ⟨gb223, 3, none⟩ (.slice Ao79 y220.length co79)).heap[gb223]? = some (.cells #[.string (⟨#[99]⟩ : ByteArray), .slice none 0 0, .slice none 0 0, .slice Ao79 y220.length co79] 26 (0, 0))) := ⟨by refine grO ?_; refine blk_put (cs := #[.string (⟨#[99]⟩ : ByteArray), .slice none 0 0, .slice none 0 0, .slice none 0 0]) ?_ 3 _ rfl; refine grO ?_; refine blk_put (cs := #[.string (⟨#[99]⟩ : ByteArray), .slice none 0 0, .slice none 0 0, .slice none 0 0]) ?_ 2 _ rfl; refine grO ?_; refine blk_put (cs := #[.string (⟨#[99]⟩ : ByteArray), .slice none 0 0, .slice none 0 0, .slice none 0 0]) ?_ 1 _ rfl; refine grO ?_; refine blk_put (cs := #[.string (⟨#[]⟩ : ByteArray), .slice none 0 0, .slice none 0 0, .slice none 0 0]) ?_ 0 _ rfl; refine grO ?_; exact BK223.out⟩
  have n2_ : Aside0 (Below w.heap.size w ((((w80.setCell ⟨gb223, 0, none⟩ (.string (⟨#[99]⟩ : ByteArray))).setCell ⟨gb223, 1, none⟩ (.slice none 0 0)).setCell ⟨gb223, 2, none⟩ (.slice none 0 0)).setCell ⟨gb223, 3, none⟩ (.slice Ao79 y220.length co79))) := ⟨by repeat (first | (with_reducible first | exact HB.out | apply below_alloc | apply pw_below_drewN | apply below_drew1 | refine below_set ?_ GE223.out) | exact HB.out)⟩
  (try clear HO222)
  (try clear BK223)
  (try clear HB)
  generalize ((((w80.setCell ⟨gb223, 0, none⟩ (.string (⟨#[99]⟩ : ByteArray))).setCell ⟨gb223, 1, none⟩ (.slice none 0 0)).setCell ⟨gb223, 2, none⟩ (.slice none 0 0)).setCell ⟨gb223, 3, none⟩ (.slice Ao79 y220.length co79)) = w82 at n0_ n1_ n2_ ⊢
  have HO222 := n0_
  have BK223 := n1_
  have HB := n2_
  clear n0_ n1_ n2_
  have n0_ := Aside0.mk (Kd.N_drew HO222.out)
  have n1_ := Aside0.mk (blk_drew BK223.out)
  have n2_ := Aside0.mk (below_drew1 HB.out)
  clear HO222
  clear BK223
  clear HB
  have HO222 := n0_
  have BK223 := n1_
  have HB := n2_
  clear n0_ n1_ n2_
  refine start_ (n := 6) (S := fun w' => w'.cell? ⟨gb223, 0, none⟩ = some (.string (⟨#[99]⟩ : ByteArray)) ∧ w'.cell? ⟨gb223, 1, none⟩ = some (.slice none 0 0) ∧ w'.cell? ⟨gb223, 2, none⟩ = some (.slice none 0 0) ∧ w'.cell? ⟨gb223, 3, none⟩ = some (.slice Ao79 y220.length co79)) (ds := []) bw29_0 (by kernel_rfl) rfl rfl ⟨(blk_cell BK223.out 0).trans rfl, (blk_cell BK223.out 1).trans rfl, (blk_cell BK223.out 2).trans rfl, (blk_cell BK223.out 3).trans rfl⟩ (fun hHeld => ?_)
  generalize w82.drew = w83 at HO222 BK223 HB hHeld ⊢
  refine take_ (i := 0) (N := some 10) (v := ?_) (a' := ?_) bw29_1 rfl rfl (by kernel_rfl) (fun _ _ _ h => h) (Or.inl ⟨by rfl, ?_⟩) hHeld ?_ ?_
  rotate_left
  ·rintro w' ⟨s0, s1, s2, s3⟩
   go_simp
   with_reducible rfl
  rotate_left
  ·simp only [Act.put, sb_, s0_, s1_, i64_w, i32_w]
   rfl
  refine take_ (i := 2) (N := some 12) (v := ?_) (a' := ?_) bw29_2 rfl rfl (by kernel_rfl) (fun _ _ _ h => h) (Or.inl ⟨by rfl, ?_⟩) hHeld ?_ ?_
  rotate_left
  ·rintro w' ⟨s0, s1, s2, s3⟩
   go_simp
   with_reducible rfl
  rotate_left
  ·simp only [Act.put, sb_, s0_, s1_, i64_w, i32_w]
   rfl
  refine one_ (i := 1) (N := some 11) bw29_3 rfl rfl (by kernel_rfl) (by decide) (fun K hK => ?_)
  refine goes_ Try.func10 (by kernel_rfl) rfl #[.agg #[.string (⟨#[99]⟩ : ByteArray), .slice none 0 0, .slice none 0 0, .slice Ao79 y220.length co79], .int .i64 5] (by rfl) rfl rfl (by (try simp only [List.map_toArray, List.map_cons, List.map_nil]); first | done | rfl | (simp only [List.length_drop, List.length_take]; rfl)) ?_
  refine (rules_Broken.calls k (⟨#[99]⟩ : ByteArray) _ _ ([] : List ByteArray) _ _ ([] : List (S51)) _ _ y220 5 t224 _ ?side1 ?side2 ?side3 ?side4 ?side5 ?side6 A1.out).mono ?_
  (case side1 => exact Kd.C_nil _ _)
  (case side2 => exact Nat.le_refl _)
  (case side3 => exact Kd.C_nil _ _)
  (case side4 => exact Nat.le_refl _)
  (case side5 => repeat (first | exact (Kd.N_reads' HO222.out).2.2 | (with_reducible refine Kd.C_alloc ?_ _) | (with_reducible refine Kd.C_drewN ?_ _) | (with_reducible refine Kd.C_drew ?_)))
  (case side6 => exact (Kd.N_reads' HO222.out).2.1)
  rintro e w84 ⟨v225, rfl, ho0, hb⟩
  refine ⟨_, rfl, ?_⟩
  have n0_ := Aside0.mk (Kd.N_elder' (by (with_reducible repeat (first | apply Kd.N_alloc | apply Kd.N_drewN | apply Kd.N_drew)); exact HO222.out) (Kd.R_base ho0) hb)
  have n1_ := Aside0.mk (Kd.R_lower ho0 (below_size (by repeat (first | (with_reducible first | exact HB.out | apply below_alloc | apply pw_below_drewN | apply below_drew1 | refine below_set ?_ GE223.out) | exact HB.out))))
  have n2_ := Aside0.mk (blk_below (g := gb223) (o := .cells #[.string (⟨#[99]⟩ : ByteArray), .slice none 0 0, .slice none 0 0, .slice Ao79 y220.length co79] 26 (0, 0)) (grw BK223.out) hb)
  have n3_ := Aside0.mk (below_step (by repeat (first | (with_reducible first | exact HB.out | apply below_alloc | apply pw_below_drewN | apply below_drew1 | refine below_set ?_ GE223.out) | exact HB.out)) hb)
  clear HO222
  clear BK223
  clear HB
  have HO222 := n0_
  have HO226 := n1_
  have BK223 := n2_
  have HB := n3_
  clear n0_ n1_ n2_ n3_
  (try clear hb)
  (try clear hb2)
  (try clear hk)
  (try clear hi)
  (try clear ho0)
  refine hK.out _ _ ⟨(blk_cell BK223.out 0).trans rfl, (blk_cell BK223.out 1).trans rfl, (blk_cell BK223.out 2).trans rfl, (blk_cell BK223.out 3).trans rfl⟩ (fun hHeld => ?_)
  clear hK K
  refine norm_ (a' := ?_) ?_ ?_
  rotate_left
  ·show Act.put _ (some 11) _ = _
   simp only [Act.put, sb_, s0_, s1_, i64_w, i32_w]
   rfl
  refine one_ (i := 3) (N := some 13) bw29_4 rfl rfl (by kernel_rfl) (by decide) (fun K hK => ?_)
  refine goes_ Try.func10 (by kernel_rfl) rfl #[.agg #[.string (⟨#[99]⟩ : ByteArray), .slice none 0 0, .slice none 0 0, .slice Ao79 y220.length co79], .int .i64 7] (by rfl) rfl rfl (by (try simp only [List.map_toArray, List.map_cons, List.map_nil]); first | done | rfl | (simp only [List.length_drop, List.length_take]; rfl)) ?_
  refine (rules_Broken.calls k (⟨#[99]⟩ : ByteArray) _ _ ([] : List ByteArray) _ _ ([] : List (S51)) _ _ y220 7 t227 _ ?side1 ?side2 ?side3 ?side4 ?side5 ?side6 A2.out).mono ?_
  (case side1 => exact Kd.C_nil _ _)
  (case side2 => exact Nat.le_refl _)
  (case side3 => exact Kd.C_nil _ _)
  (case side4 => exact Nat.le_refl _)
  (case side5 => repeat (first | exact (Kd.N_reads' HO222.out).2.2 | (with_reducible refine Kd.C_alloc ?_ _) | (with_reducible refine Kd.C_drewN ?_ _) | (with_reducible refine Kd.C_drew ?_)))
  (case side6 => exact (Kd.N_reads' HO222.out).2.1)
  rintro e w85 ⟨v228, rfl, ho0, hb⟩
  refine ⟨_, rfl, ?_⟩
  have n0_ := Aside0.mk (Kd.N_elder' (by (with_reducible repeat (first | apply Kd.N_alloc | apply Kd.N_drewN | apply Kd.N_drew)); exact HO222.out) (Kd.R_base ho0) hb)
  have n1_ := Aside0.mk (Kd.R_elder' (by (with_reducible repeat (first | apply Kd.R_alloc | apply Kd.R_drewN | apply Kd.R_drew)); exact HO226.out) (Kd.R_base ho0) hb)
  have n2_ := Aside0.mk (Kd.R_lower (Kd.R_new' ho0 (Kd.R_lt (by (with_reducible repeat (first | apply Kd.R_alloc | apply Kd.R_drewN | apply Kd.R_drew)); exact HO226.out))) (below_size (by repeat (first | (with_reducible first | exact HB.out | apply below_alloc | apply pw_below_drewN | apply below_drew1 | refine below_set ?_ GE223.out) | exact HB.out))))
  have n3_ := Aside0.mk (blk_below (g := gb223) (o := .cells #[.string (⟨#[99]⟩ : ByteArray), .slice none 0 0, .slice none 0 0, .slice Ao79 y220.length co79] 26 (0, 0)) (grw BK223.out) hb)
  have n4_ := Aside0.mk (below_step (by repeat (first | (with_reducible first | exact HB.out | apply below_alloc | apply pw_below_drewN | apply below_drew1 | refine below_set ?_ GE223.out) | exact HB.out)) hb)
  clear HO222
  clear HO226
  clear BK223
  clear HB
  have HO222 := n0_
  have HO226 := n1_
  have HO229 := n2_
  have BK223 := n3_
  have HB := n4_
  clear n0_ n1_ n2_ n3_ n4_
  (try clear hb)
  (try clear hb2)
  (try clear hk)
  (try clear hi)
  (try clear ho0)
  refine hK.out _ _ ⟨(blk_cell BK223.out 0).trans rfl, (blk_cell BK223.out 1).trans rfl, (blk_cell BK223.out 2).trans rfl, (blk_cell BK223.out 3).trans rfl⟩ (fun hHeld => ?_)
  clear hK K
  refine norm_ (a' := ?_) ?_ ?_
  rotate_left
  ·show Act.put _ (some 13) _ = _
   simp only [Act.put, sb_, s0_, s1_, i64_w, i32_w]
   rfl
  refine pure_ (i := 4) (N := some 2) (v := ?_) (a' := ?_) bw29_5 rfl rfl (by kernel_rfl) (fun _ _ _ h => h) (Or.inl ⟨by rfl, ?_⟩) ?_ ?_
  rotate_left
  ·intro w'
   go_simp
   with_reducible rfl
  rotate_left
  ·simp only [Act.put, sb_, s0_, s1_, i64_w, i32_w]
   rfl
  refine pure_ (i := 5) (N := some 3) (v := ?_) (a' := ?_) bw29_6 rfl rfl (by kernel_rfl) (fun _ _ _ h => h) (Or.inl ⟨by rfl, ?_⟩) ?_ ?_
  rotate_left
  ·intro w'
   go_simp
   with_reducible rfl
  rotate_left
  ·simp only [Act.put, sb_, s0_, s1_, i64_w, i32_w]
   rfl
  refine done_ (by kernel_rfl) ?_
  obtain ⟨Ao86, co86, eo86⟩ := Kd.R_slice HO226.out
  subst eo86
  have p230 : 0 ≤ (0 : Int) := (by omega)
  have q230 : 0 < (t224.length : Int) := of_decide_eq_true (by first | (with_reducible assumption) | assumption)
  obtain ⟨ad230, e230, hx230_0, hx230_1, hx230_2⟩ := at_T66 (Kd.R_reads' HO226.out).2.2 0 p230 q230
  cases e230
  have qi230 : (0 < t224.length) = True := eq_true (by omega)
  (try rw [show ((0 : Int)).toNat = 0 from rfl] at hx230_0)
  (try rw [show 0 * 3 = 0 from rfl] at hx230_0)
  (try rw [Addr.add_zero'] at hx230_0)
  (try rw [show ((0 : Int)).toNat = 0 from rfl] at hx230_1)
  (try rw [show 0 * 3 = 0 from rfl] at hx230_1)
  (try rw [Addr.add_zero'] at hx230_1)
  (try rw [show ((0 : Int)).toNat = 0 from rfl] at hx230_2)
  (try rw [show 0 * 3 = 0 from rfl] at hx230_2)
  (try rw [Addr.add_zero'] at hx230_2)
  replace p230 := eq_true p230
  replace q230 := eq_true q230
  try go_wp2
  go_ret
  exact ⟨by first | rfl | (simp [errW_none, errW_some] <;> rfl) | (simp [*, errW_none, errW_some] <;> rfl), by repeat (first | (with_reducible first | exact HB.out | apply below_alloc | apply pw_below_drewN | apply below_drew1 | refine below_set ?_ GE223.out) | exact HB.out)⟩
 rw [if_pos c5] at H
 have c5b0 : (((rd_T66 t224 0).f0) == 5 && (((rd_T66 t224 0).f1) == 0 && (((rd_T66 t224 0).f2) == 0))) = true := c5
 (try (have c5b1 : decide (((rd_T66 t224 0).f0) = 5 && (((rd_T66 t224 0).f1) == 0 && (((rd_T66 t224 0).f2) == 0))) = true := by simpa using c5))
 (try (have c5b2 : (((rd_T66 t224 0).f0) == 5 && (((rd_T66 t224 0).f1) == 0 && (((rd_T66 t224 0).f2) == 0))) = true := by simpa using c5))
 clear c5
 by_cases c6 : (t227.length : Int) = 1
 rotate_left
 ·rw [if_neg c6] at H
  have c6b0 : ((t227.length : Int) == 1) = false := beq_eq_false_iff_ne.mpr c6
  have c6b1 : ((t227.length : Int) != 1) = true := bne_iff_ne.mpr c6
  obtain rfl := Option.some.inj H
  go_enter Try.func9, Try.ntmps9
  try go_wp2_with (first | ((with_reducible refine gate_dst (N := 6) rfl ?_); (try (refine gate_guard (by rfl) ?_; dsimp only)); refine Kd.N_lit k58 _ 58 ?hg (N' := 6) ?hd (xs := ([(⟨(⟨#[]⟩ : ByteArray), ([] : List (S47)), ([] : List (S93)), (⟨#[97]⟩ : ByteArray)⟩ : S58), (⟨(⟨#[]⟩ : ByteArray), ([] : List (S47)), ([] : List (S93)), (⟨#[98]⟩ : ByteArray)⟩ : S58)] : List (S58))) (inner := [.string (⟨#[]⟩ : ByteArray), .slice none 0 0, .slice none 0 0, .string (⟨#[97]⟩ : ByteArray), .string (⟨#[]⟩ : ByteArray), .slice none 0 0, .slice none 0 0, .string (⟨#[98]⟩ : ByteArray)]) (ok := (fun _ => True)) (okp := (fun _ => True)) ?hr ?hp (fun _ hk => hk) ((show ∀ k_, w.heap.size ≤ k_ → (fun _ => True) k_ from fun k_ hk => trivial) _ (Nat.le_refl _)) (Below.refl _ _) (Nat.le_refl _) (by simp) ?_; (case hd => rfl); (case hg => rfl); (case hr => first | (go_simp; done) | (go_simp; rfl)); (case hp => exact (Reps.c4 (show Kd.FK k58 _ _ (⟨(⟨#[]⟩ : ByteArray), ([] : List (S47)), ([] : List (S93)), (⟨#[97]⟩ : ByteArray)⟩ : S58) [.string (⟨#[]⟩ : ByteArray), .slice none 0 0, .slice none 0 0, .string (⟨#[97]⟩ : ByteArray)] from (k58_mkF _ _ (⟨(⟨#[]⟩ : ByteArray), ([] : List (S47)), ([] : List (S93)), (⟨#[97]⟩ : ByteArray)⟩ : S58) (Nat.le_refl _) (Kd.F_nil _ _ _) (Nat.le_refl _) (Kd.F_nil _ _ _))) (Reps.c4 (show Kd.FK k58 _ _ (⟨(⟨#[]⟩ : ByteArray), ([] : List (S47)), ([] : List (S93)), (⟨#[98]⟩ : ByteArray)⟩ : S58) [.string (⟨#[]⟩ : ByteArray), .slice none 0 0, .slice none 0 0, .string (⟨#[98]⟩ : ByteArray)] from (k58_mkF _ _ (⟨(⟨#[]⟩ : ByteArray), ([] : List (S47)), ([] : List (S93)), (⟨#[98]⟩ : ByteArray)⟩ : S58) (Nat.le_refl _) (Kd.F_nil _ _ _) (Nat.le_refl _) (Kd.F_nil _ _ _))) (Reps.none _ _)))); intro v218 w60 ho61 hb hg_ hnew_; clear hg_ hnew_; (first | rw [← Ny217.out] at ho61 | (simp only [Int.reduceToNat] at ho61; rw [← Ny217.out] at ho61)); have n0_ := Aside0.mk (Kd.N_lower ho61 (below_size (brw HB.out))); have n1_ := Aside0.mk (below_step (brw HB.out) hb); clear HB; have HO219 := n0_; have HB := n1_; clear n0_ n1_; clear hb ho61; obtain ⟨Ao62, co62, eo62⟩ := Kd.N_slice HO219.out; subst eo62) | ((with_reducible refine gate_dst (N := 8) rfl ?_); (try (refine gate_guard (by rfl) ?_; dsimp only)); refine Kd.N_lit k55 _ 55 ?hg (N' := 8) ?hd (xs := ([(⟨(⟨#[97]⟩ : ByteArray), 2, (-1), ([] : List (S93)), ([] : List (S93)), y217⟩ : S55)] : List (S55))) (inner := [.string (⟨#[97]⟩ : ByteArray), .int .i64 2, .int .i64 (-1), .slice none 0 0, .slice none 0 0, .slice Ao62 y217.length co62]) (ok := (fun _ => True)) (okp := (fun _ => True)) ?hr ?hp (fun _ hk => hk) ((show ∀ k_, w60.heap.size ≤ k_ → (fun _ => True) k_ from fun k_ hk => trivial) _ (Nat.le_refl _)) (Below.refl _ _) (Nat.le_refl _) (by simp) ?_; (case hd => rfl); (case hg => rfl); (case hr => first | (go_simp; done) | (go_simp; rfl)); (case hp => exact (Reps.c6 (show Kd.FK k55 _ _ (⟨(⟨#[97]⟩ : ByteArray), 2, (-1), ([] : List (S93)), ([] : List (S93)), y217⟩ : S55) [.string (⟨#[97]⟩ : ByteArray), .int .i64 2, .int .i64 (-1), .slice none 0 0, .slice none 0 0, .slice Ao62 y217.length co62] from (k55_mkF _ _ (⟨(⟨#[97]⟩ : ByteArray), 2, (-1), ([] : List (S93)), ([] : List (S93)), y217⟩ : S55) (Nat.le_refl _) (Kd.F_nil _ _ _) (Nat.le_refl _) (Kd.F_nil _ _ _) (Kd.N_reads' (Kd.N_mono (ok' := (fun _ => True)) (HO219.out) (fun k_ hk => trivial))).2.1 (Kd.N_F (Kd.N_mono (ok' := (fun _ => True)) (HO219.out) (fun k_ hk => trivial))))) (Reps.none _ _))); intro v221 w63 ho64 hb hg_ hnew_; clear hg_ hnew_; (first | rw [← Ny220.out] at ho64 | (simp only [Int.reduceToNat] at ho64; rw [← Ny220.out] at ho64)); have n0_ := Aside0.mk (Kd.N_lower ho64 (below_size (brw HB.out))); have n1_ := Aside0.mk (below_step (brw HB.out) hb); clear HB; clear HO219; have HO222 := n0_; have HB := n1_; clear n0_ n1_; clear hb ho64; obtain ⟨Ao65, co65, eo65⟩ := Kd.N_slice HO222.out; subst eo65) | ((with_reducible refine gate_dst (N := 1) rfl ?_); (try (refine gate_guard (by rfl) ?_; dsimp only)); refine box_event ?hg (N := 1) ?hd (cs := #[.string (⟨#[]⟩ : ByteArray), .slice none 0 0, .slice none 0 0, .slice none 0 0]) (t := 26) ?hr ?_; (case hd => rfl); (case hg => rfl); (case hr => first | (go_simp; done) | (go_simp; rfl)); intro gb223 hg w66 hbox hb; have hB_ := bz29_ hb (brw HB.out); have n0_ := Aside0.mk (Kd.N_below (Kd.N_elderB (by (with_reducible repeat (first | apply Kd.N_alloc | apply Kd.N_drewN | apply Kd.N_drew)); exact HO222.out) gb223 (Nat.le_of_eq hg.symm)) hb); have n1_ := Aside0.mk (below_step hB_ hb); have n2_ := Aside0.mk (hbox); have n3_ := Aside0.mk ((by rw [hg]; exact (below_size hB_) : w.heap.size ≤ gb223)); have n4_ := Aside0.mk ((by rw [hg]; exact (below_size hB_) : w.heap.size ≤ gb223)); clear HO222; clear HB; have HO222 := n0_; have HB := n1_; have BK223 := n2_; have GW223 := n3_; have GE223 := n4_; clear n0_ n1_ n2_ n3_ n4_; clear hb hbox hg; obtain ⟨hcz67_0, hcz67_1, hcz67_2, hcz67_3⟩ := cz4_ BK223.out; obtain ⟨hfz67_0, hfz67_1, hfz67_2, hfz67_3⟩ := cf4_ BK223.out))
  have n0_ : Aside0 (Kd.N k55 55 ((((w66.setCell ⟨gb223, 0, none⟩ (.string (⟨#[99]⟩ : ByteArray))).setCell ⟨gb223, 1, none⟩ (.slice none 0 0)).setCell ⟨gb223, 2, none⟩ (.slice none 0 0)).setCell ⟨gb223, 3, none⟩ (.slice Ao65 y220.length co65)) w.heap.size (fun k_ => k_ ≠ gb223) (.slice Ao65 y220.length co65) y220) := ⟨by (with_reducible repeat (first | apply Kd.N_alloc | apply Kd.N_drewN | apply Kd.N_drew)); exact Kd.N_mono (Kd.N_far (p := ⟨gb223, 3, none⟩) (Kd.N_far (p := ⟨gb223, 2, none⟩) (Kd.N_far (p := ⟨gb223, 1, none⟩) (Kd.N_far (p := ⟨gb223, 0, none⟩) (Kd.N_mono HO222.out (fun k_ hk => (⟨hk, hk.2⟩ : _ ∧ k_ ≠ gb223))) (fun _ hk => hk.2) (.string (⟨#[99]⟩ : ByteArray))) (fun _ hk => hk.2) (.slice none 0 0)) (fun _ hk => hk.2) (.slice none 0 0)) (fun _ hk => hk.2) (.slice Ao65 y220.length co65)) (fun _ hk => hk.1.2)⟩
  have n1_ : Aside0 (((((w66.setCell ⟨gb223, 0, none⟩ (.string (⟨#[99]⟩ : ByteArray))).setCell ⟨gb223, 1, none⟩ (.slice none 0 0)).setCell ⟨gb223, 2, none⟩ (.slice none 0 0)).setCell ⟨gb223, 3, none⟩ (.slice Ao65 y220.length co65)).heap[gb223]? = some (.cells #[.string (⟨#[99]⟩ : ByteArray), .slice none 0 0, .slice none 0 0, .slice Ao65 y220.length co65] 26 (0, 0))) := ⟨by refine grO ?_; refine blk_put (cs := #[.string (⟨#[99]⟩ : ByteArray), .slice none 0 0, .slice none 0 0, .slice none 0 0]) ?_ 3 _ rfl; refine grO ?_; refine blk_put (cs := #[.string (⟨#[99]⟩ : ByteArray), .slice none 0 0, .slice none 0 0, .slice none 0 0]) ?_ 2 _ rfl; refine grO ?_; refine blk_put (cs := #[.string (⟨#[99]⟩ : ByteArray), .slice none 0 0, .slice none 0 0, .slice none 0 0]) ?_ 1 _ rfl; refine grO ?_; refine blk_put (cs := #[.string (⟨#[]⟩ : ByteArray), .slice none 0 0, .slice none 0 0, .slice none 0 0]) ?_ 0 _ rfl; refine grO ?_; exact BK223.out⟩
  have n2_ : Aside0 (Below w.heap.size w ((((w66.setCell ⟨gb223, 0, none⟩ (.string (⟨#[99]⟩ : ByteArray))).setCell ⟨gb223, 1, none⟩ (.slice none 0 0)).setCell ⟨gb223, 2, none⟩ (.slice none 0 0)).setCell ⟨gb223, 3, none⟩ (.slice Ao65 y220.length co65))) := ⟨by repeat (first | (with_reducible first | exact HB.out | apply below_alloc | apply pw_below_drewN | apply below_drew1 | refine below_set ?_ GE223.out) | exact HB.out)⟩
  (try clear HO222)
  (try clear BK223)
  (try clear HB)
  generalize ((((w66.setCell ⟨gb223, 0, none⟩ (.string (⟨#[99]⟩ : ByteArray))).setCell ⟨gb223, 1, none⟩ (.slice none 0 0)).setCell ⟨gb223, 2, none⟩ (.slice none 0 0)).setCell ⟨gb223, 3, none⟩ (.slice Ao65 y220.length co65)) = w68 at n0_ n1_ n2_ ⊢
  have HO222 := n0_
  have BK223 := n1_
  have HB := n2_
  clear n0_ n1_ n2_
  have n0_ := Aside0.mk (Kd.N_drew HO222.out)
  have n1_ := Aside0.mk (blk_drew BK223.out)
  have n2_ := Aside0.mk (below_drew1 HB.out)
  clear HO222
  clear BK223
  clear HB
  have HO222 := n0_
  have BK223 := n1_
  have HB := n2_
  clear n0_ n1_ n2_
  refine start_ (n := 6) (S := fun w' => w'.cell? ⟨gb223, 0, none⟩ = some (.string (⟨#[99]⟩ : ByteArray)) ∧ w'.cell? ⟨gb223, 1, none⟩ = some (.slice none 0 0) ∧ w'.cell? ⟨gb223, 2, none⟩ = some (.slice none 0 0) ∧ w'.cell? ⟨gb223, 3, none⟩ = some (.slice Ao65 y220.length co65)) (ds := []) bw29_0 (by kernel_rfl) rfl rfl ⟨(blk_cell BK223.out 0).trans rfl, (blk_cell BK223.out 1).trans rfl, (blk_cell BK223.out 2).trans rfl, (blk_cell BK223.out 3).trans rfl⟩ (fun hHeld => ?_)
  generalize w68.drew = w69 at HO222 BK223 HB hHeld ⊢
  refine take_ (i := 0) (N := some 10) (v := ?_) (a' := ?_) bw29_1 rfl rfl (by kernel_rfl) (fun _ _ _ h => h) (Or.inl ⟨by rfl, ?_⟩) hHeld ?_ ?_
  rotate_left
  ·rintro w' ⟨s0, s1, s2, s3⟩
   go_simp
   with_reducible rfl
  rotate_left
  ·simp only [Act.put, sb_, s0_, s1_, i64_w, i32_w]
   rfl
  refine take_ (i := 2) (N := some 12) (v := ?_) (a' := ?_) bw29_2 rfl rfl (by kernel_rfl) (fun _ _ _ h => h) (Or.inl ⟨by rfl, ?_⟩) hHeld ?_ ?_
  rotate_left
  ·rintro w' ⟨s0, s1, s2, s3⟩
   go_simp
   with_reducible rfl
  rotate_left
  ·simp only [Act.put, sb_, s0_, s1_, i64_w, i32_w]
   rfl
  refine one_ (i := 1) (N := some 11) bw29_3 rfl rfl (by kernel_rfl) (by decide) (fun K hK => ?_)
  refine goes_ Try.func10 (by kernel_rfl) rfl #[.agg #[.string (⟨#[99]⟩ : ByteArray), .slice none 0 0, .slice none 0 0, .slice Ao65 y220.length co65], .int .i64 5] (by rfl) rfl rfl (by (try simp only [List.map_toArray, List.map_cons, List.map_nil]); first | done | rfl | (simp only [List.length_drop, List.length_take]; rfl)) ?_
  refine (rules_Broken.calls k (⟨#[99]⟩ : ByteArray) _ _ ([] : List ByteArray) _ _ ([] : List (S51)) _ _ y220 5 t224 _ ?side1 ?side2 ?side3 ?side4 ?side5 ?side6 A1.out).mono ?_
  (case side1 => exact Kd.C_nil _ _)
  (case side2 => exact Nat.le_refl _)
  (case side3 => exact Kd.C_nil _ _)
  (case side4 => exact Nat.le_refl _)
  (case side5 => repeat (first | exact (Kd.N_reads' HO222.out).2.2 | (with_reducible refine Kd.C_alloc ?_ _) | (with_reducible refine Kd.C_drewN ?_ _) | (with_reducible refine Kd.C_drew ?_)))
  (case side6 => exact (Kd.N_reads' HO222.out).2.1)
  rintro e w70 ⟨v225, rfl, ho0, hb⟩
  refine ⟨_, rfl, ?_⟩
  have n0_ := Aside0.mk (Kd.N_elder' (by (with_reducible repeat (first | apply Kd.N_alloc | apply Kd.N_drewN | apply Kd.N_drew)); exact HO222.out) (Kd.R_base ho0) hb)
  have n1_ := Aside0.mk (Kd.R_lower ho0 (below_size (by repeat (first | (with_reducible first | exact HB.out | apply below_alloc | apply pw_below_drewN | apply below_drew1 | refine below_set ?_ GE223.out) | exact HB.out))))
  have n2_ := Aside0.mk (blk_below (g := gb223) (o := .cells #[.string (⟨#[99]⟩ : ByteArray), .slice none 0 0, .slice none 0 0, .slice Ao65 y220.length co65] 26 (0, 0)) (grw BK223.out) hb)
  have n3_ := Aside0.mk (below_step (by repeat (first | (with_reducible first | exact HB.out | apply below_alloc | apply pw_below_drewN | apply below_drew1 | refine below_set ?_ GE223.out) | exact HB.out)) hb)
  clear HO222
  clear BK223
  clear HB
  have HO222 := n0_
  have HO226 := n1_
  have BK223 := n2_
  have HB := n3_
  clear n0_ n1_ n2_ n3_
  (try clear hb)
  (try clear hb2)
  (try clear hk)
  (try clear hi)
  (try clear ho0)
  refine hK.out _ _ ⟨(blk_cell BK223.out 0).trans rfl, (blk_cell BK223.out 1).trans rfl, (blk_cell BK223.out 2).trans rfl, (blk_cell BK223.out 3).trans rfl⟩ (fun hHeld => ?_)
  clear hK K
  refine norm_ (a' := ?_) ?_ ?_
  rotate_left
  ·show Act.put _ (some 11) _ = _
   simp only [Act.put, sb_, s0_, s1_, i64_w, i32_w]
   rfl
  refine one_ (i := 3) (N := some 13) bw29_4 rfl rfl (by kernel_rfl) (by decide) (fun K hK => ?_)
  refine goes_ Try.func10 (by kernel_rfl) rfl #[.agg #[.string (⟨#[99]⟩ : ByteArray), .slice none 0 0, .slice none 0 0, .slice Ao65 y220.length co65], .int .i64 7] (by rfl) rfl rfl (by (try simp only [List.map_toArray, List.map_cons, List.map_nil]); first | done | rfl | (simp only [List.length_drop, List.length_take]; rfl)) ?_
  refine (rules_Broken.calls k (⟨#[99]⟩ : ByteArray) _ _ ([] : List ByteArray) _ _ ([] : List (S51)) _ _ y220 7 t227 _ ?side1 ?side2 ?side3 ?side4 ?side5 ?side6 A2.out).mono ?_
  (case side1 => exact Kd.C_nil _ _)
  (case side2 => exact Nat.le_refl _)
  (case side3 => exact Kd.C_nil _ _)
  (case side4 => exact Nat.le_refl _)
  (case side5 => repeat (first | exact (Kd.N_reads' HO222.out).2.2 | (with_reducible refine Kd.C_alloc ?_ _) | (with_reducible refine Kd.C_drewN ?_ _) | (with_reducible refine Kd.C_drew ?_)))
  (case side6 => exact (Kd.N_reads' HO222.out).2.1)
  rintro e w71 ⟨v228, rfl, ho0, hb⟩
  refine ⟨_, rfl, ?_⟩
  have n0_ := Aside0.mk (Kd.N_elder' (by (with_reducible repeat (first | apply Kd.N_alloc | apply Kd.N_drewN | apply Kd.N_drew)); exact HO222.out) (Kd.R_base ho0) hb)
  have n1_ := Aside0.mk (Kd.R_elder' (by (with_reducible repeat (first | apply Kd.R_alloc | apply Kd.R_drewN | apply Kd.R_drew)); exact HO226.out) (Kd.R_base ho0) hb)
  have n2_ := Aside0.mk (Kd.R_lower (Kd.R_new' ho0 (Kd.R_lt (by (with_reducible repeat (first | apply Kd.R_alloc | apply Kd.R_drewN | apply Kd.R_drew)); exact HO226.out))) (below_size (by repeat (first | (with_reducible first | exact HB.out | apply below_alloc | apply pw_below_drewN | apply below_drew1 | refine below_set ?_ GE223.out) | exact HB.out))))
  have n3_ := Aside0.mk (blk_below (g := gb223) (o := .cells #[.string (⟨#[99]⟩ : ByteArray), .slice none 0 0, .slice none 0 0, .slice Ao65 y220.length co65] 26 (0, 0)) (grw BK223.out) hb)
  have n4_ := Aside0.mk (below_step (by repeat (first | (with_reducible first | exact HB.out | apply below_alloc | apply pw_below_drewN | apply below_drew1 | refine below_set ?_ GE223.out) | exact HB.out)) hb)
  clear HO222
  clear HO226
  clear BK223
  clear HB
  have HO222 := n0_
  have HO226 := n1_
  have HO229 := n2_
  have BK223 := n3_
  have HB := n4_
  clear n0_ n1_ n2_ n3_ n4_
  (try clear hb)
  (try clear hb2)
  (try clear hk)
  (try clear hi)
  (try clear ho0)
  refine hK.out _ _ ⟨(blk_cell BK223.out 0).trans rfl, (blk_cell BK223.out 1).trans rfl, (blk_cell BK223.out 2).trans rfl, (blk_cell BK223.out 3).trans rfl⟩ (fun hHeld => ?_)
  clear hK K
  refine norm_ (a' := ?_) ?_ ?_
  rotate_left
  ·show Act.put _ (some 13) _ = _
   simp only [Act.put, sb_, s0_, s1_, i64_w, i32_w]
   rfl
  refine pure_ (i := 4) (N := some 2) (v := ?_) (a' := ?_) bw29_5 rfl rfl (by kernel_rfl) (fun _ _ _ h => h) (Or.inl ⟨by rfl, ?_⟩) ?_ ?_
  rotate_left
  ·intro w'
   go_simp
   with_reducible rfl
  rotate_left
  ·simp only [Act.put, sb_, s0_, s1_, i64_w, i32_w]
   rfl
  refine pure_ (i := 5) (N := some 3) (v := ?_) (a' := ?_) bw29_6 rfl rfl (by kernel_rfl) (fun _ _ _ h => h) (Or.inl ⟨by rfl, ?_⟩) ?_ ?_
  rotate_left
  ·intro w'
   go_simp
   with_reducible rfl
  rotate_left
  ·simp only [Act.put, sb_, s0_, s1_, i64_w, i32_w]
   rfl
  refine done_ (by kernel_rfl) ?_
  obtain ⟨Ao72, co72, eo72⟩ := Kd.R_slice HO226.out
  subst eo72
  have p230 : 0 ≤ (0 : Int) := (by omega)
  have q230 : 0 < (t224.length : Int) := of_decide_eq_true (by first | (with_reducible assumption) | assumption)
  obtain ⟨ad230, e230, hx230_0, hx230_1, hx230_2⟩ := at_T66 (Kd.R_reads' HO226.out).2.2 0 p230 q230
  cases e230
  have qi230 : (0 < t224.length) = True := eq_true (by omega)
  (try rw [show ((0 : Int)).toNat = 0 from rfl] at hx230_0)
  (try rw [show 0 * 3 = 0 from rfl] at hx230_0)
  (try rw [Addr.add_zero'] at hx230_0)
  (try rw [show ((0 : Int)).toNat = 0 from rfl] at hx230_1)
  (try rw [show 0 * 3 = 0 from rfl] at hx230_1)
  (try rw [Addr.add_zero'] at hx230_1)
  (try rw [show ((0 : Int)).toNat = 0 from rfl] at hx230_2)
  (try rw [show 0 * 3 = 0 from rfl] at hx230_2)
  (try rw [Addr.add_zero'] at hx230_2)
  replace p230 := eq_true p230
  replace q230 := eq_true q230
  obtain ⟨Ao73, co73, eo73⟩ := Kd.R_slice HO229.out
  subst eo73
  try go_wp2
  go_ret
  exact ⟨by first | rfl | (simp [errW_none, errW_some] <;> rfl) | (simp [*, errW_none, errW_some] <;> rfl), by repeat (first | (with_reducible first | exact HB.out | apply below_alloc | apply pw_below_drewN | apply below_drew1 | refine below_set ?_ GE223.out) | exact HB.out)⟩
 rw [if_pos c6] at H
 have c6b0 : ((t227.length : Int) == 1) = true := beq_iff_eq.mpr c6
 have c6b1 : ((t227.length : Int) != 1) = false := bne_eq_false_iff_eq.mpr c6
 clear c6
 by_cases c7 : 0 < (t227.length : Int)
 rotate_left
 ·rw [if_neg c7] at H
  exact absurd H (by simp)
 rw [if_pos c7] at H
 have c7b0 : decide (0 < (t227.length : Int)) = true := decide_eq_true c7
 have c7b1 : decide (0 < t227.length) = true := decide_eq_true (by omega)
 clear c7
 have HZ_ := Aside0.mk H
 clear H
 go_enter Try.func9, Try.ntmps9
 try go_wp2_with (first | ((with_reducible refine gate_dst (N := 6) rfl ?_); (try (refine gate_guard (by rfl) ?_; dsimp only)); refine Kd.N_lit k58 _ 58 ?hg (N' := 6) ?hd (xs := ([(⟨(⟨#[]⟩ : ByteArray), ([] : List (S47)), ([] : List (S93)), (⟨#[97]⟩ : ByteArray)⟩ : S58), (⟨(⟨#[]⟩ : ByteArray), ([] : List (S47)), ([] : List (S93)), (⟨#[98]⟩ : ByteArray)⟩ : S58)] : List (S58))) (inner := [.string (⟨#[]⟩ : ByteArray), .slice none 0 0, .slice none 0 0, .string (⟨#[97]⟩ : ByteArray), .string (⟨#[]⟩ : ByteArray), .slice none 0 0, .slice none 0 0, .string (⟨#[98]⟩ : ByteArray)]) (ok := (fun _ => True)) (okp := (fun _ => True)) ?hr ?hp (fun _ hk => hk) ((show ∀ k_, w.heap.size ≤ k_ → (fun _ => True) k_ from fun k_ hk => trivial) _ (Nat.le_refl _)) (Below.refl _ _) (Nat.le_refl _) (by simp) ?_; (case hd => rfl); (case hg => rfl); (case hr => first | (go_simp; done) | (go_simp; rfl)); (case hp => exact (Reps.c4 (show Kd.FK k58 _ _ (⟨(⟨#[]⟩ : ByteArray), ([] : List (S47)), ([] : List (S93)), (⟨#[97]⟩ : ByteArray)⟩ : S58) [.string (⟨#[]⟩ : ByteArray), .slice none 0 0, .slice none 0 0, .string (⟨#[97]⟩ : ByteArray)] from (k58_mkF _ _ (⟨(⟨#[]⟩ : ByteArray), ([] : List (S47)), ([] : List (S93)), (⟨#[97]⟩ : ByteArray)⟩ : S58) (Nat.le_refl _) (Kd.F_nil _ _ _) (Nat.le_refl _) (Kd.F_nil _ _ _))) (Reps.c4 (show Kd.FK k58 _ _ (⟨(⟨#[]⟩ : ByteArray), ([] : List (S47)), ([] : List (S93)), (⟨#[98]⟩ : ByteArray)⟩ : S58) [.string (⟨#[]⟩ : ByteArray), .slice none 0 0, .slice none 0 0, .string (⟨#[98]⟩ : ByteArray)] from (k58_mkF _ _ (⟨(⟨#[]⟩ : ByteArray), ([] : List (S47)), ([] : List (S93)), (⟨#[98]⟩ : ByteArray)⟩ : S58) (Nat.le_refl _) (Kd.F_nil _ _ _) (Nat.le_refl _) (Kd.F_nil _ _ _))) (Reps.none _ _)))); intro v218 w12 ho13 hb hg_ hnew_; clear hg_ hnew_; (first | rw [← Ny217.out] at ho13 | (simp only [Int.reduceToNat] at ho13; rw [← Ny217.out] at ho13)); have n0_ := Aside0.mk (Kd.N_lower ho13 (below_size (brw HB.out))); have n1_ := Aside0.mk (below_step (brw HB.out) hb); clear HB; have HO219 := n0_; have HB := n1_; clear n0_ n1_; clear hb ho13; obtain ⟨Ao14, co14, eo14⟩ := Kd.N_slice HO219.out; subst eo14) | ((with_reducible refine gate_dst (N := 8) rfl ?_); (try (refine gate_guard (by rfl) ?_; dsimp only)); refine Kd.N_lit k55 _ 55 ?hg (N' := 8) ?hd (xs := ([(⟨(⟨#[97]⟩ : ByteArray), 2, (-1), ([] : List (S93)), ([] : List (S93)), y217⟩ : S55)] : List (S55))) (inner := [.string (⟨#[97]⟩ : ByteArray), .int .i64 2, .int .i64 (-1), .slice none 0 0, .slice none 0 0, .slice Ao14 y217.length co14]) (ok := (fun _ => True)) (okp := (fun _ => True)) ?hr ?hp (fun _ hk => hk) ((show ∀ k_, w12.heap.size ≤ k_ → (fun _ => True) k_ from fun k_ hk => trivial) _ (Nat.le_refl _)) (Below.refl _ _) (Nat.le_refl _) (by simp) ?_; (case hd => rfl); (case hg => rfl); (case hr => first | (go_simp; done) | (go_simp; rfl)); (case hp => exact (Reps.c6 (show Kd.FK k55 _ _ (⟨(⟨#[97]⟩ : ByteArray), 2, (-1), ([] : List (S93)), ([] : List (S93)), y217⟩ : S55) [.string (⟨#[97]⟩ : ByteArray), .int .i64 2, .int .i64 (-1), .slice none 0 0, .slice none 0 0, .slice Ao14 y217.length co14] from (k55_mkF _ _ (⟨(⟨#[97]⟩ : ByteArray), 2, (-1), ([] : List (S93)), ([] : List (S93)), y217⟩ : S55) (Nat.le_refl _) (Kd.F_nil _ _ _) (Nat.le_refl _) (Kd.F_nil _ _ _) (Kd.N_reads' (Kd.N_mono (ok' := (fun _ => True)) (HO219.out) (fun k_ hk => trivial))).2.1 (Kd.N_F (Kd.N_mono (ok' := (fun _ => True)) (HO219.out) (fun k_ hk => trivial))))) (Reps.none _ _))); intro v221 w15 ho16 hb hg_ hnew_; clear hg_ hnew_; (first | rw [← Ny220.out] at ho16 | (simp only [Int.reduceToNat] at ho16; rw [← Ny220.out] at ho16)); have n0_ := Aside0.mk (Kd.N_lower ho16 (below_size (brw HB.out))); have n1_ := Aside0.mk (below_step (brw HB.out) hb); clear HB; clear HO219; have HO222 := n0_; have HB := n1_; clear n0_ n1_; clear hb ho16; obtain ⟨Ao17, co17, eo17⟩ := Kd.N_slice HO222.out; subst eo17) | ((with_reducible refine gate_dst (N := 1) rfl ?_); (try (refine gate_guard (by rfl) ?_; dsimp only)); refine box_event ?hg (N := 1) ?hd (cs := #[.string (⟨#[]⟩ : ByteArray), .slice none 0 0, .slice none 0 0, .slice none 0 0]) (t := 26) ?hr ?_; (case hd => rfl); (case hg => rfl); (case hr => first | (go_simp; done) | (go_simp; rfl)); intro gb223 hg w18 hbox hb; have hB_ := bz29_ hb (brw HB.out); have n0_ := Aside0.mk (Kd.N_below (Kd.N_elderB (by (with_reducible repeat (first | apply Kd.N_alloc | apply Kd.N_drewN | apply Kd.N_drew)); exact HO222.out) gb223 (Nat.le_of_eq hg.symm)) hb); have n1_ := Aside0.mk (below_step hB_ hb); have n2_ := Aside0.mk (hbox); have n3_ := Aside0.mk ((by rw [hg]; exact (below_size hB_) : w.heap.size ≤ gb223)); have n4_ := Aside0.mk ((by rw [hg]; exact (below_size hB_) : w.heap.size ≤ gb223)); clear HO222; clear HB; have HO222 := n0_; have HB := n1_; have BK223 := n2_; have GW223 := n3_; have GE223 := n4_; clear n0_ n1_ n2_ n3_ n4_; clear hb hbox hg; obtain ⟨hcz19_0, hcz19_1, hcz19_2, hcz19_3⟩ := cz4_ BK223.out; obtain ⟨hfz19_0, hfz19_1, hfz19_2, hfz19_3⟩ := cf4_ BK223.out))
 have n0_ : Aside0 (Kd.N k55 55 ((((w18.setCell ⟨gb223, 0, none⟩ (.string (⟨#[99]⟩ : ByteArray))).setCell ⟨gb223, 1, none⟩ (.slice none 0 0)).setCell ⟨gb223, 2, none⟩ (.slice none 0 0)).setCell ⟨gb223, 3, none⟩ (.slice Ao17 y220.length co17)) w.heap.size (fun k_ => k_ ≠ gb223) (.slice Ao17 y220.length co17) y220) := ⟨by (with_reducible repeat (first | apply Kd.N_alloc | apply Kd.N_drewN | apply Kd.N_drew)); exact Kd.N_mono (Kd.N_far (p := ⟨gb223, 3, none⟩) (Kd.N_far (p := ⟨gb223, 2, none⟩) (Kd.N_far (p := ⟨gb223, 1, none⟩) (Kd.N_far (p := ⟨gb223, 0, none⟩) (Kd.N_mono HO222.out (fun k_ hk => (⟨hk, hk.2⟩ : _ ∧ k_ ≠ gb223))) (fun _ hk => hk.2) (.string (⟨#[99]⟩ : ByteArray))) (fun _ hk => hk.2) (.slice none 0 0)) (fun _ hk => hk.2) (.slice none 0 0)) (fun _ hk => hk.2) (.slice Ao17 y220.length co17)) (fun _ hk => hk.1.2)⟩
 have n1_ : Aside0 (((((w18.setCell ⟨gb223, 0, none⟩ (.string (⟨#[99]⟩ : ByteArray))).setCell ⟨gb223, 1, none⟩ (.slice none 0 0)).setCell ⟨gb223, 2, none⟩ (.slice none 0 0)).setCell ⟨gb223, 3, none⟩ (.slice Ao17 y220.length co17)).heap[gb223]? = some (.cells #[.string (⟨#[99]⟩ : ByteArray), .slice none 0 0, .slice none 0 0, .slice Ao17 y220.length co17] 26 (0, 0))) := ⟨by refine grO ?_; refine blk_put (cs := #[.string (⟨#[99]⟩ : ByteArray), .slice none 0 0, .slice none 0 0, .slice none 0 0]) ?_ 3 _ rfl; refine grO ?_; refine blk_put (cs := #[.string (⟨#[99]⟩ : ByteArray), .slice none 0 0, .slice none 0 0, .slice none 0 0]) ?_ 2 _ rfl; refine grO ?_; refine blk_put (cs := #[.string (⟨#[99]⟩ : ByteArray), .slice none 0 0, .slice none 0 0, .slice none 0 0]) ?_ 1 _ rfl; refine grO ?_; refine blk_put (cs := #[.string (⟨#[]⟩ : ByteArray), .slice none 0 0, .slice none 0 0, .slice none 0 0]) ?_ 0 _ rfl; refine grO ?_; exact BK223.out⟩
 have n2_ : Aside0 (Below w.heap.size w ((((w18.setCell ⟨gb223, 0, none⟩ (.string (⟨#[99]⟩ : ByteArray))).setCell ⟨gb223, 1, none⟩ (.slice none 0 0)).setCell ⟨gb223, 2, none⟩ (.slice none 0 0)).setCell ⟨gb223, 3, none⟩ (.slice Ao17 y220.length co17))) := ⟨by repeat (first | (with_reducible first | exact HB.out | apply below_alloc | apply pw_below_drewN | apply below_drew1 | refine below_set ?_ GE223.out) | exact HB.out)⟩
 (try clear HO222)
 (try clear BK223)
 (try clear HB)
 generalize ((((w18.setCell ⟨gb223, 0, none⟩ (.string (⟨#[99]⟩ : ByteArray))).setCell ⟨gb223, 1, none⟩ (.slice none 0 0)).setCell ⟨gb223, 2, none⟩ (.slice none 0 0)).setCell ⟨gb223, 3, none⟩ (.slice Ao17 y220.length co17)) = w20 at n0_ n1_ n2_ ⊢
 have HO222 := n0_
 have BK223 := n1_
 have HB := n2_
 clear n0_ n1_ n2_
 have n0_ := Aside0.mk (Kd.N_drew HO222.out)
 have n1_ := Aside0.mk (blk_drew BK223.out)
 have n2_ := Aside0.mk (below_drew1 HB.out)
 clear HO222
 clear BK223
 clear HB
 have HO222 := n0_
 have BK223 := n1_
 have HB := n2_
 clear n0_ n1_ n2_
 refine start_ (n := 6) (S := fun w' => w'.cell? ⟨gb223, 0, none⟩ = some (.string (⟨#[99]⟩ : ByteArray)) ∧ w'.cell? ⟨gb223, 1, none⟩ = some (.slice none 0 0) ∧ w'.cell? ⟨gb223, 2, none⟩ = some (.slice none 0 0) ∧ w'.cell? ⟨gb223, 3, none⟩ = some (.slice Ao17 y220.length co17)) (ds := []) bw29_0 (by kernel_rfl) rfl rfl ⟨(blk_cell BK223.out 0).trans rfl, (blk_cell BK223.out 1).trans rfl, (blk_cell BK223.out 2).trans rfl, (blk_cell BK223.out 3).trans rfl⟩ (fun hHeld => ?_)
 generalize w20.drew = w21 at HO222 BK223 HB hHeld ⊢
 refine take_ (i := 0) (N := some 10) (v := ?_) (a' := ?_) bw29_1 rfl rfl (by kernel_rfl) (fun _ _ _ h => h) (Or.inl ⟨by rfl, ?_⟩) hHeld ?_ ?_
 rotate_left
 ·rintro w' ⟨s0, s1, s2, s3⟩
  go_simp
  with_reducible rfl
 rotate_left
 ·simp only [Act.put, sb_, s0_, s1_, i64_w, i32_w]
  rfl
 refine take_ (i := 2) (N := some 12) (v := ?_) (a' := ?_) bw29_2 rfl rfl (by kernel_rfl) (fun _ _ _ h => h) (Or.inl ⟨by rfl, ?_⟩) hHeld ?_ ?_
 rotate_left
 ·rintro w' ⟨s0, s1, s2, s3⟩
  go_simp
  with_reducible rfl
 rotate_left
 ·simp only [Act.put, sb_, s0_, s1_, i64_w, i32_w]
  rfl
 refine one_ (i := 1) (N := some 11) bw29_3 rfl rfl (by kernel_rfl) (by decide) (fun K hK => ?_)
 refine goes_ Try.func10 (by kernel_rfl) rfl #[.agg #[.string (⟨#[99]⟩ : ByteArray), .slice none 0 0, .slice none 0 0, .slice Ao17 y220.length co17], .int .i64 5] (by rfl) rfl rfl (by (try simp only [List.map_toArray, List.map_cons, List.map_nil]); first | done | rfl | (simp only [List.length_drop, List.length_take]; rfl)) ?_
 refine (rules_Broken.calls k (⟨#[99]⟩ : ByteArray) _ _ ([] : List ByteArray) _ _ ([] : List (S51)) _ _ y220 5 t224 _ ?side1 ?side2 ?side3 ?side4 ?side5 ?side6 A1.out).mono ?_
 (case side1 => exact Kd.C_nil _ _)
 (case side2 => exact Nat.le_refl _)
 (case side3 => exact Kd.C_nil _ _)
 (case side4 => exact Nat.le_refl _)
 (case side5 => repeat (first | exact (Kd.N_reads' HO222.out).2.2 | (with_reducible refine Kd.C_alloc ?_ _) | (with_reducible refine Kd.C_drewN ?_ _) | (with_reducible refine Kd.C_drew ?_)))
 (case side6 => exact (Kd.N_reads' HO222.out).2.1)
 rintro e w22 ⟨v225, rfl, ho0, hb⟩
 refine ⟨_, rfl, ?_⟩
 have n0_ := Aside0.mk (Kd.N_elder' (by (with_reducible repeat (first | apply Kd.N_alloc | apply Kd.N_drewN | apply Kd.N_drew)); exact HO222.out) (Kd.R_base ho0) hb)
 have n1_ := Aside0.mk (Kd.R_lower ho0 (below_size (by repeat (first | (with_reducible first | exact HB.out | apply below_alloc | apply pw_below_drewN | apply below_drew1 | refine below_set ?_ GE223.out) | exact HB.out))))
 have n2_ := Aside0.mk (blk_below (g := gb223) (o := .cells #[.string (⟨#[99]⟩ : ByteArray), .slice none 0 0, .slice none 0 0, .slice Ao17 y220.length co17] 26 (0, 0)) (grw BK223.out) hb)
 have n3_ := Aside0.mk (below_step (by repeat (first | (with_reducible first | exact HB.out | apply below_alloc | apply pw_below_drewN | apply below_drew1 | refine below_set ?_ GE223.out) | exact HB.out)) hb)
 clear HO222
 clear BK223
 clear HB
 have HO222 := n0_
 have HO226 := n1_
 have BK223 := n2_
 have HB := n3_
 clear n0_ n1_ n2_ n3_
 (try clear hb)
 (try clear hb2)
 (try clear hk)
 (try clear hi)
 (try clear ho0)
 refine hK.out _ _ ⟨(blk_cell BK223.out 0).trans rfl, (blk_cell BK223.out 1).trans rfl, (blk_cell BK223.out 2).trans rfl, (blk_cell BK223.out 3).trans rfl⟩ (fun hHeld => ?_)
 clear hK K
 refine norm_ (a' := ?_) ?_ ?_
 rotate_left
 ·show Act.put _ (some 11) _ = _
  simp only [Act.put, sb_, s0_, s1_, i64_w, i32_w]
  rfl
 refine one_ (i := 3) (N := some 13) bw29_4 rfl rfl (by kernel_rfl) (by decide) (fun K hK => ?_)
 refine goes_ Try.func10 (by kernel_rfl) rfl #[.agg #[.string (⟨#[99]⟩ : ByteArray), .slice none 0 0, .slice none 0 0, .slice Ao17 y220.length co17], .int .i64 7] (by rfl) rfl rfl (by (try simp only [List.map_toArray, List.map_cons, List.map_nil]); first | done | rfl | (simp only [List.length_drop, List.length_take]; rfl)) ?_
 refine (rules_Broken.calls k (⟨#[99]⟩ : ByteArray) _ _ ([] : List ByteArray) _ _ ([] : List (S51)) _ _ y220 7 t227 _ ?side1 ?side2 ?side3 ?side4 ?side5 ?side6 A2.out).mono ?_
 (case side1 => exact Kd.C_nil _ _)
 (case side2 => exact Nat.le_refl _)
 (case side3 => exact Kd.C_nil _ _)
 (case side4 => exact Nat.le_refl _)
 (case side5 => repeat (first | exact (Kd.N_reads' HO222.out).2.2 | (with_reducible refine Kd.C_alloc ?_ _) | (with_reducible refine Kd.C_drewN ?_ _) | (with_reducible refine Kd.C_drew ?_)))
 (case side6 => exact (Kd.N_reads' HO222.out).2.1)
 rintro e w23 ⟨v228, rfl, ho0, hb⟩
 refine ⟨_, rfl, ?_⟩
 have n0_ := Aside0.mk (Kd.N_elder' (by (with_reducible repeat (first | apply Kd.N_alloc | apply Kd.N_drewN | apply Kd.N_drew)); exact HO222.out) (Kd.R_base ho0) hb)
 have n1_ := Aside0.mk (Kd.R_elder' (by (with_reducible repeat (first | apply Kd.R_alloc | apply Kd.R_drewN | apply Kd.R_drew)); exact HO226.out) (Kd.R_base ho0) hb)
 have n2_ := Aside0.mk (Kd.R_lower (Kd.R_new' ho0 (Kd.R_lt (by (with_reducible repeat (first | apply Kd.R_alloc | apply Kd.R_drewN | apply Kd.R_drew)); exact HO226.out))) (below_size (by repeat (first | (with_reducible first | exact HB.out | apply below_alloc | apply pw_below_drewN | apply below_drew1 | refine below_set ?_ GE223.out) | exact HB.out))))
 have n3_ := Aside0.mk (blk_below (g := gb223) (o := .cells #[.string (⟨#[99]⟩ : ByteArray), .slice none 0 0, .slice none 0 0, .slice Ao17 y220.length co17] 26 (0, 0)) (grw BK223.out) hb)
 have n4_ := Aside0.mk (below_step (by repeat (first | (with_reducible first | exact HB.out | apply below_alloc | apply pw_below_drewN | apply below_drew1 | refine below_set ?_ GE223.out) | exact HB.out)) hb)
 clear HO222
 clear HO226
 clear BK223
 clear HB
 have HO222 := n0_
 have HO226 := n1_
 have HO229 := n2_
 have BK223 := n3_
 have HB := n4_
 clear n0_ n1_ n2_ n3_ n4_
 (try clear hb)
 (try clear hb2)
 (try clear hk)
 (try clear hi)
 (try clear ho0)
 refine hK.out _ _ ⟨(blk_cell BK223.out 0).trans rfl, (blk_cell BK223.out 1).trans rfl, (blk_cell BK223.out 2).trans rfl, (blk_cell BK223.out 3).trans rfl⟩ (fun hHeld => ?_)
 clear hK K
 refine norm_ (a' := ?_) ?_ ?_
 rotate_left
 ·show Act.put _ (some 13) _ = _
  simp only [Act.put, sb_, s0_, s1_, i64_w, i32_w]
  rfl
 refine pure_ (i := 4) (N := some 2) (v := ?_) (a' := ?_) bw29_5 rfl rfl (by kernel_rfl) (fun _ _ _ h => h) (Or.inl ⟨by rfl, ?_⟩) ?_ ?_
 rotate_left
 ·intro w'
  go_simp
  with_reducible rfl
 rotate_left
 ·simp only [Act.put, sb_, s0_, s1_, i64_w, i32_w]
  rfl
 refine pure_ (i := 5) (N := some 3) (v := ?_) (a' := ?_) bw29_6 rfl rfl (by kernel_rfl) (fun _ _ _ h => h) (Or.inl ⟨by rfl, ?_⟩) ?_ ?_
 rotate_left
 ·intro w'
  go_simp
  with_reducible rfl
 rotate_left
 ·simp only [Act.put, sb_, s0_, s1_, i64_w, i32_w]
  rfl
 refine done_ (by kernel_rfl) ?_
 obtain ⟨Ao24, co24, eo24⟩ := Kd.R_slice HO226.out
 subst eo24
 have p230 : 0 ≤ (0 : Int) := (by omega)
 have q230 : 0 < (t224.length : Int) := of_decide_eq_true (by first | (with_reducible assumption) | assumption)
 obtain ⟨ad230, e230, hx230_0, hx230_1, hx230_2⟩ := at_T66 (Kd.R_reads' HO226.out).2.2 0 p230 q230
 cases e230
 have qi230 : (0 < t224.length) = True := eq_true (by omega)
 (try rw [show ((0 : Int)).toNat = 0 from rfl] at hx230_0)
 (try rw [show 0 * 3 = 0 from rfl] at hx230_0)
 (try rw [Addr.add_zero'] at hx230_0)
 (try rw [show ((0 : Int)).toNat = 0 from rfl] at hx230_1)
 (try rw [show 0 * 3 = 0 from rfl] at hx230_1)
 (try rw [Addr.add_zero'] at hx230_1)
 (try rw [show ((0 : Int)).toNat = 0 from rfl] at hx230_2)
 (try rw [show 0 * 3 = 0 from rfl] at hx230_2)
 (try rw [Addr.add_zero'] at hx230_2)
 replace p230 := eq_true p230
 replace q230 := eq_true q230
 obtain ⟨Ao25, co25, eo25⟩ := Kd.R_slice HO229.out
 subst eo25
 have p231 : 0 ≤ (0 : Int) := (by omega)
 have q231 : 0 < (t227.length : Int) := of_decide_eq_true (by first | (with_reducible assumption) | assumption)
 obtain ⟨ad231, e231, hx231_0, hx231_1, hx231_2⟩ := at_T66 (Kd.R_reads' HO229.out).2.2 0 p231 q231
 cases e231
 have qi231 : (0 < t227.length) = True := eq_true (by omega)
 (try rw [show ((0 : Int)).toNat = 0 from rfl] at hx231_0)
 (try rw [show 0 * 3 = 0 from rfl] at hx231_0)
 (try rw [Addr.add_zero'] at hx231_0)
 (try rw [show ((0 : Int)).toNat = 0 from rfl] at hx231_1)
 (try rw [show 0 * 3 = 0 from rfl] at hx231_1)
 (try rw [Addr.add_zero'] at hx231_1)
 (try rw [show ((0 : Int)).toNat = 0 from rfl] at hx231_2)
 (try rw [show 0 * 3 = 0 from rfl] at hx231_2)
 (try rw [Addr.add_zero'] at hx231_2)
 replace p231 := eq_true p231
 replace q231 := eq_true q231
 have H := HZ_.out
 clear HZ_
 by_cases c8 : (((rd_T66 t227 0).f0) == 7 && (((rd_T66 t227 0).f1) == 0 && (((rd_T66 t227 0).f2) == 1))) = true
 rotate_left
 ·rw [if_neg c8] at H
  have c8b0 : (((rd_T66 t227 0).f0) == 7 && (((rd_T66 t227 0).f1) == 0 && (((rd_T66 t227 0).f2) == 1))) = false := by simpa using c8
  (try (have c8b1 : decide (((rd_T66 t227 0).f0) = 7 && (((rd_T66 t227 0).f1) == 0 && (((rd_T66 t227 0).f2) == 1))) = false := by simpa using c8))
  (try (have c8b2 : (((rd_T66 t227 0).f0) == 7 && (((rd_T66 t227 0).f1) == 0 && (((rd_T66 t227 0).f2) == 1))) = false := by simpa using c8))
  (try (have c8b3 : ¬ (((rd_T66 t227 0).f0) = 7 && (((rd_T66 t227 0).f1) == 0 && (((rd_T66 t227 0).f2) == 1))) := by simpa using c8))
  clear c8
  obtain rfl := Option.some.inj H
  try go_wp2
  go_ret
  exact ⟨by first | rfl | (simp [errW_none, errW_some] <;> rfl) | (simp [*, errW_none, errW_some] <;> rfl), by repeat (first | (with_reducible first | exact HB.out | apply below_alloc | apply pw_below_drewN | apply below_drew1 | refine below_set ?_ GE223.out) | exact HB.out)⟩
 rw [if_pos c8] at H
 have c8b0 : (((rd_T66 t227 0).f0) == 7 && (((rd_T66 t227 0).f1) == 0 && (((rd_T66 t227 0).f2) == 1))) = true := c8
 (try (have c8b1 : decide (((rd_T66 t227 0).f0) = 7 && (((rd_T66 t227 0).f1) == 0 && (((rd_T66 t227 0).f2) == 1))) = true := by simpa using c8))
 (try (have c8b2 : (((rd_T66 t227 0).f0) == 7 && (((rd_T66 t227 0).f1) == 0 && (((rd_T66 t227 0).f2) == 1))) = true := by simpa using c8))
 clear c8
 replace H := Option.bind_eq_some_iff.mp H
 obtain ⟨t232, A90, H⟩ := H
 replace H : (if t232 = true then ((rules_Kept.f k (⟨#[99]⟩ : ByteArray) ([] : List ByteArray) ([] : List (S51)) y220 5).bind fun t233 => (some (!t233))) else (some false)) = some r := H
 have A9 := Aside0.mk A90
 clear A90
 by_cases c10 : t232 = true
 rotate_left
 ·replace c10 := Bool.eq_false_iff.mpr c10
  subst c10
  have H1 : (some false) = some r := by rw [if_neg (show ¬ (false = true) by decide)] at H; exact H
  clear H
  have H := H1
  clear H1
  obtain rfl := Option.some.inj H
  obtain ⟨hcz44_0, hcz44_1, hcz44_2, hcz44_3⟩ := cz4_ BK223.out
  obtain ⟨hfz44_0, hfz44_1, hfz44_2, hfz44_3⟩ := cf4_ BK223.out
  try go_wp2_with (first | (go_at_call 13; (refine (rules_Kept.calls k (⟨#[99]⟩ : ByteArray) _ _ ([] : List ByteArray) _ _ ([] : List (S51)) _ _ y220 4 false _ ?side1 ?side2 ?side3 ?side4 ?side5 ?side6 A9.out).mono ?_); (case side1 => exact Kd.C_nil _ _); (case side2 => exact Nat.le_refl _); (case side3 => exact Kd.C_nil _ _); (case side4 => exact Nat.le_refl _); (case side5 => repeat (first | exact (Kd.N_reads' HO222.out).2.2 | (with_reducible refine Kd.C_alloc ?_ _) | (with_reducible refine Kd.C_drewN ?_ _) | (with_reducible refine Kd.C_drew ?_))); (case side6 => exact (Kd.N_reads' HO222.out).2.1); rintro e w45 ⟨rfl, hb⟩; have n0_ := Aside0.mk (Kd.N_below (by (with_reducible repeat (first | apply Kd.N_alloc | apply Kd.N_drewN | apply Kd.N_drew)); exact HO222.out) hb); have n1_ := Aside0.mk (Kd.R_below (by (with_reducible repeat (first | apply Kd.R_alloc | apply Kd.R_drewN | apply Kd.R_drew)); exact HO226.out) hb); have n2_ := Aside0.mk (Kd.R_below (by (with_reducible repeat (first | apply Kd.R_alloc | apply Kd.R_drewN | apply Kd.R_drew)); exact HO229.out) hb); have n3_ := Aside0.mk (blk_below (g := gb223) (o := .cells #[.string (⟨#[99]⟩ : ByteArray), .slice none 0 0, .slice none 0 0, .slice Ao17 y220.length co17] 26 (0, 0)) (grw BK223.out) hb); have n4_ := Aside0.mk (below_step (by repeat (first | (with_reducible first | exact HB.out | apply below_alloc | apply pw_below_drewN | apply below_drew1 | refine below_set ?_ GE223.out) | exact HB.out)) hb); clear HO222; clear HO226; clear HO229; clear BK223; clear HB; have HO222 := n0_; have HO226 := n1_; have HO229 := n2_; have BK223 := n3_; have HB := n4_; clear n0_ n1_ n2_ n3_ n4_; (try clear hb); (try clear hb2); (try clear hk); (try clear hi)))
  go_ret
  exact ⟨by first | rfl | (simp [errW_none, errW_some] <;> rfl) | (simp [*, errW_none, errW_some] <;> rfl), by repeat (first | (with_reducible first | exact HB.out | apply below_alloc | apply pw_below_drewN | apply below_drew1 | refine below_set ?_ GE223.out) | exact HB.out)⟩
 subst c10
 have H1 : ((rules_Kept.f k (⟨#[99]⟩ : ByteArray) ([] : List ByteArray) ([] : List (S51)) y220 5).bind fun t233 => (some (!t233))) = some r := by rw [if_pos rfl] at H; exact H
 clear H
 have H := H1
 clear H1
 replace H := Option.bind_eq_some_iff.mp H
 obtain ⟨t233, A110, H⟩ := H
 replace H : (some (!t233)) = some r := H
 have A11 := Aside0.mk A110
 clear A110
 obtain rfl := Option.some.inj H
 obtain ⟨hcz26_0, hcz26_1, hcz26_2, hcz26_3⟩ := cz4_ BK223.out
 obtain ⟨hfz26_0, hfz26_1, hfz26_2, hfz26_3⟩ := cf4_ BK223.out
 try go_wp2_with (first | (go_at_call 13; have chk_ := A9; clear chk_; (refine (rules_Kept.calls k (⟨#[99]⟩ : ByteArray) _ _ ([] : List ByteArray) _ _ ([] : List (S51)) _ _ y220 4 true _ ?side1 ?side2 ?side3 ?side4 ?side5 ?side6 A9.out).mono ?_); (case side1 => exact Kd.C_nil _ _); (case side2 => exact Nat.le_refl _); (case side3 => exact Kd.C_nil _ _); (case side4 => exact Nat.le_refl _); (case side5 => repeat (first | exact (Kd.N_reads' HO222.out).2.2 | (with_reducible refine Kd.C_alloc ?_ _) | (with_reducible refine Kd.C_drewN ?_ _) | (with_reducible refine Kd.C_drew ?_))); (case side6 => exact (Kd.N_reads' HO222.out).2.1); rintro e w27 ⟨rfl, hb⟩; have n0_ := Aside0.mk (Kd.N_below (by (with_reducible repeat (first | apply Kd.N_alloc | apply Kd.N_drewN | apply Kd.N_drew)); exact HO222.out) hb); have n1_ := Aside0.mk (Kd.R_below (by (with_reducible repeat (first | apply Kd.R_alloc | apply Kd.R_drewN | apply Kd.R_drew)); exact HO226.out) hb); have n2_ := Aside0.mk (Kd.R_below (by (with_reducible repeat (first | apply Kd.R_alloc | apply Kd.R_drewN | apply Kd.R_drew)); exact HO229.out) hb); have n3_ := Aside0.mk (blk_below (g := gb223) (o := .cells #[.string (⟨#[99]⟩ : ByteArray), .slice none 0 0, .slice none 0 0, .slice Ao17 y220.length co17] 26 (0, 0)) (grw BK223.out) hb); have n4_ := Aside0.mk (below_step (by repeat (first | (with_reducible first | exact HB.out | apply below_alloc | apply pw_below_drewN | apply below_drew1 | refine below_set ?_ GE223.out) | exact HB.out)) hb); clear HO222; clear HO226; clear HO229; clear BK223; clear HB; have HO222 := n0_; have HO226 := n1_; have HO229 := n2_; have BK223 := n3_; have HB := n4_; clear n0_ n1_ n2_ n3_ n4_; (try clear hb); (try clear hb2); (try clear hk); (try clear hi); obtain ⟨hcz28_0, hcz28_1, hcz28_2, hcz28_3⟩ := cz4_ BK223.out; obtain ⟨hfz28_0, hfz28_1, hfz28_2, hfz28_3⟩ := cf4_ BK223.out; (try clear A9)) | (go_at_call 13; have chk_ := A11; clear chk_; (refine (rules_Kept.calls k (⟨#[99]⟩ : ByteArray) _ _ ([] : List ByteArray) _ _ ([] : List (S51)) _ _ y220 5 t233 _ ?side1 ?side2 ?side3 ?side4 ?side5 ?side6 A11.out).mono ?_); (case side1 => exact Kd.C_nil _ _); (case side2 => exact Nat.le_refl _); (case side3 => exact Kd.C_nil _ _); (case side4 => exact Nat.le_refl _); (case side5 => repeat (first | exact (Kd.N_reads' HO222.out).2.2 | (with_reducible refine Kd.C_alloc ?_ _) | (with_reducible refine Kd.C_drewN ?_ _) | (with_reducible refine Kd.C_drew ?_))); (case side6 => exact (Kd.N_reads' HO222.out).2.1); rintro e w29 ⟨rfl, hb⟩; have n0_ := Aside0.mk (Kd.N_below (by (with_reducible repeat (first | apply Kd.N_alloc | apply Kd.N_drewN | apply Kd.N_drew)); exact HO222.out) hb); have n1_ := Aside0.mk (Kd.R_below (by (with_reducible repeat (first | apply Kd.R_alloc | apply Kd.R_drewN | apply Kd.R_drew)); exact HO226.out) hb); have n2_ := Aside0.mk (Kd.R_below (by (with_reducible repeat (first | apply Kd.R_alloc | apply Kd.R_drewN | apply Kd.R_drew)); exact HO229.out) hb); have n3_ := Aside0.mk (blk_below (g := gb223) (o := .cells #[.string (⟨#[99]⟩ : ByteArray), .slice none 0 0, .slice none 0 0, .slice Ao17 y220.length co17] 26 (0, 0)) (grw BK223.out) hb); have n4_ := Aside0.mk (below_step (by repeat (first | (with_reducible first | exact HB.out | apply below_alloc | apply pw_below_drewN | apply below_drew1 | refine below_set ?_ GE223.out) | exact HB.out)) hb); clear HO222; clear HO226; clear HO229; clear BK223; clear HB; have HO222 := n0_; have HO226 := n1_; have HO229 := n2_; have BK223 := n3_; have HB := n4_; clear n0_ n1_ n2_ n3_ n4_; (try clear hb); (try clear hb2); (try clear hk); (try clear hi); (try clear A11)))
 go_ret
 exact ⟨by first | rfl | (simp [errW_none, errW_some] <;> rfl) | (simp [*, errW_none, errW_some] <;> rfl), by repeat (first | (with_reducible first | exact HB.out | apply below_alloc | apply pw_below_drewN | apply below_drew1 | refine below_set ?_ GE223.out) | exact HB.out)⟩
/-! ### semblanceref10_Kids: function 72 -/
def semblanceref10_Kids.l0 : Nat → List (S55) → Int → List Int → Int → Option (List Int)
  | 0, _, _, _, _ => none
  | k + 1, x0, x1, x5, x6 => if x6 < (x0.length : Int) then (if 0 ≤ x6 then (if ((rd_T55 x0 x6).f2) = x1 then (if x5.length < 17592186044416 then (semblanceref10_Kids.l0 k x0 x1 (x5 ++ [x6]) (wrap64 (x6 + 1))) else (none)) else (semblanceref10_Kids.l0 k x0 x1 x5 (wrap64 (x6 + 1)))) else (none)) else (some x5)
def semblanceref10_Kids.f (k : Nat) (l0 : List (S55)) (a1 : Int) : Option (List Int) := semblanceref10_Kids.l0 k l0 a1 (([] : List Int)) 0
theorem semblanceref10_Kids.mono_l : ∀ k, (∀ y0 y1 y2 y3, LeO (semblanceref10_Kids.l0 k y0 y1 y2 y3) (semblanceref10_Kids.l0 (k + 1) y0 y1 y2 y3))
  | 0 => fun _ _ _ _ r h => by simp [semblanceref10_Kids.l0] at h
  | k + 1 => by
    have ih0 := semblanceref10_Kids.mono_l k
    · intro y0 y1 y2 y3
      unfold semblanceref10_Kids.l0
      repeat' first
      | (with_reducible exact ih0 _ _ _ _)
      | (with_reducible exact LeO.refl _)
      | (with_reducible exact LeO.none _)
      | (with_reducible refine LeO.ite ?_ ?_)
      | (with_reducible refine LeO.bind ?_ (fun _ => ?_))
      | exact ih0 _ _ _ _
      | exact LeO.none _
      | refine LeO.ite ?_ ?_
      | refine LeO.bind ?_ (fun _ => ?_)
theorem semblanceref10_Kids.mono : ∀ a0 a1 k, LeO (semblanceref10_Kids.f k a0 a1) (semblanceref10_Kids.f (k + 1) a0 a1) := by
  intro a0 a1 k
  have ih0 := semblanceref10_Kids.mono_l k
  unfold semblanceref10_Kids.f
  repeat' first
      | (with_reducible exact ih0 _ _ _ _)
      | (with_reducible exact LeO.refl _)
      | (with_reducible exact LeO.none _)
      | (with_reducible refine LeO.ite ?_ ?_)
      | (with_reducible refine LeO.bind ?_ (fun _ => ?_))
      | exact ih0 _ _ _ _
      | exact LeO.none _
      | refine LeO.ite ?_ ?_
      | refine LeO.bind ?_ (fun _ => ?_)
theorem hc30_ {w W : World} {a : Addr} {v : Value} (hb : Below w.heap.size w W) (h : w.cell? a = some v) : W.cell? a = some v := (hb.cell (World.block_lt_of_cell? w _ h)).trans h
set_option maxHeartbeats 8000000 in
set_option maxRecDepth 100000 in
theorem semblanceref10_Kids.calls (k : Nat) (A0 : Option Addr) (c0 : Nat) (l0 : List (S55)) (a1 : Int) (r : List Int) (w : World) (hr0 : Kd.C k55 w A0 l0.length l0) (hc0 : l0.length ≤ c0) (h : semblanceref10_Kids.f k l0 a1 = some r) :
  Calls Try.prog 72 #[.slice A0 l0.length c0, .int .i64 a1] w fun e w' => ∃ v0_ : Value, e = .returned (v0_) ∧ Kd.R (Kd.int .i64) 3 w' w.heap.size (fun _ => True) v0_ r ∧ Below w.heap.size w w' := by
 have HR0 := Aside0.mk hr0
 have HC0 := Aside0.mk hc0
 clear hr0 hc0
 have HB := Aside0.mk (Below.refl w.heap.size w)
 have H : (semblanceref10_Kids.l0 k l0 a1 (([] : List Int)) 0) = some r := h
 clear h
 obtain ⟨y234, hy234⟩ : ∃ y_ : List Int, y_ = (([] : List Int)) := ⟨_, rfl⟩
 replace H : (semblanceref10_Kids.l0 k l0 a1 y234 0) = some r := by first | (rw [hy234]; with_reducible exact H) | (have H2_ := (Option.bind_some _ _).symm.trans H; rw [hy234]; with_reducible exact H2_) | (have H2_ := (Option.bind_some _ _).symm.trans H; with_reducible exact H2_) | with_reducible exact H | (rw [hy234]; exact H) | exact H
 have Ny234 := Aside0.mk hy234
 clear hy234
 have H' := Aside0.mk H
 clear H
 go_enter Try.func72, Try.ntmps72
 go_wp2_with (first | ((with_reducible refine gate_dst (N := 7) rfl ?_); refine Kd.R_lit (Kd.int .i64) _ 3 ?hg (N := 7) ?hd (xs := ([] : List Int)) (inner := []) (ok := fun _ => True) (okp := fun _ => True) ?hr ?hp (fun _ hk => hk) trivial (Below.refl _ _) (Nat.le_refl _) (by simp) ?_; (case hd => rfl); (case hg => rfl); (case hr => first | (go_simp; done) | (go_simp; rfl)); (case hp => exact (Reps.none _ _)); intro v235 w3 ho4 hb hg_ hnew_; clear hg_ hnew_; (first | rw [← Ny234.out] at ho4 | (simp only [Int.reduceToNat] at ho4; rw [← Ny234.out] at ho4)); have n0_ := Aside0.mk (Kd.R_lower ho4 (below_size (brw HB.out))); have n1_ := Aside0.mk (below_step (brw HB.out) hb); clear HB; have HO236 := n0_; have HB := n1_; clear n0_ n1_; clear hb ho4))
 go_loopg [5, 6] k (fun kq v5 v6 w' => ∃ (x5_1 : List Int) (x6_1 : Int), v6 = .int .i64 x6_1 ∧ Aside0 (semblanceref10_Kids.l0 kq l0 a1 x5_1 x6_1 = some r) ∧ Aside0 (kq ≤ k) ∧ Aside0 (Kd.R (Kd.int .i64) 3 w' w.heap.size (fun _ => True) v5 x5_1) ∧ Aside0 (Below w.heap.size w w'))
 case atStart => exact ⟨(y234), (0), (by first | rfl | (simp; done) | (simp [*]; done)), H', ⟨Nat.le_refl _⟩, ⟨by (with_reducible repeat (first | apply Kd.R_alloc | apply Kd.R_drewN | apply Kd.R_drew)); exact HO236.out⟩, ⟨by repeat (first | (with_reducible first | exact HB.out | apply below_alloc | apply pw_below_drewN | apply below_drew1) | exact HB.out)⟩⟩
 case round =>
  clear H'
  try clear p2
  obtain ⟨x5_1, x6_1, rfl, HA, HK1, HO_5, HB⟩ := hrel
  cases gk with
  | zero => exact absurd HA.out (by simp [semblanceref10_Kids.l0])
  | succ k1 =>
   have H := HA.out
   clear HA
   simp only [semblanceref10_Kids.l0] at H
   by_cases c5 : x6_1 < (l0.length : Int)
   rotate_left
   ·rw [if_neg c5] at H
    have c5b0 : decide (x6_1 < (l0.length : Int)) = false := decide_eq_false c5
    clear c5
    obtain rfl := Option.some.inj H
    go_wp2
    go_ret
    exact ⟨_, by first | rfl | (simp [errW_none, errW_some] <;> rfl) | (simp [*, errW_none, errW_some] <;> rfl), by (with_reducible repeat (first | apply Kd.R_alloc | apply Kd.R_drewN | apply Kd.R_drew)); exact HO_5.out, by repeat (first | (with_reducible first | exact HB.out | apply below_alloc | apply pw_below_drewN | apply below_drew1) | exact HB.out)⟩

   rw [if_pos c5] at H
   have c5b0 : decide (x6_1 < (l0.length : Int)) = true := decide_eq_true c5
   clear c5
   by_cases c6 : 0 ≤ x6_1
   rotate_left
   ·rw [if_neg c6] at H
    exact absurd H (by simp)
   rw [if_pos c6] at H
   have c6b0 : decide (0 ≤ x6_1) = true := decide_eq_true c6
   clear c6
   by_cases c7 : ((rd_T55 l0 x6_1).f2) = a1
   rotate_left
   ·rw [if_neg c7] at H
    have c7b0 : (((rd_T55 l0 x6_1).f2) == a1) = false := beq_eq_false_iff_ne.mpr c7
    have c7b1 : (((rd_T55 l0 x6_1).f2) != a1) = true := bne_iff_ne.mpr c7
    have H' := Aside0.mk H
    clear H
    have p237 : 0 ≤ (x6_1 : Int) := of_decide_eq_true (by first | (with_reducible assumption) | assumption)
    have q237 : x6_1 < (l0.length : Int) := of_decide_eq_true (by first | (with_reducible assumption) | assumption)
    obtain ⟨ad237, A237_3, c237_3, A237_4, c237_4, A237_5, c237_5, e237, hx237_0, hx237_1, hx237_2, hx237_3, hx237_4, hx237_5, hl237_3, hi237_3, hl237_4, hi237_4, hl237_5, hi237_5⟩ := at_T55 HR0.out x6_1 p237 q237
    cases e237
    replace hx237_0 := hc30_ HB.out hx237_0
    replace hx237_1 := hc30_ HB.out hx237_1
    replace hx237_2 := hc30_ HB.out hx237_2
    replace hx237_3 := hc30_ HB.out hx237_3
    replace hx237_4 := hc30_ HB.out hx237_4
    replace hx237_5 := hc30_ HB.out hx237_5
    have HR237_3 := Aside0.mk hi237_3
    have HC237_3 := Aside0.mk hl237_3
    clear hi237_3 hl237_3
    have HR237_4 := Aside0.mk hi237_4
    have HC237_4 := Aside0.mk hl237_4
    clear hi237_4 hl237_4
    have HR237_5 := Aside0.mk hi237_5
    have HC237_5 := Aside0.mk hl237_5
    clear hi237_5 hl237_5
    replace p237 := eq_true p237
    replace q237 := eq_true q237
    go_wp2
    go_roundg k1
    case measure => have := HK1.out; omega
    case rel => exact ⟨(x5_1), (wrap64 (x6_1 + 1)), (by first | rfl | (simp; done) | (simp [*]; done)), H', ⟨by have := HK1.out; omega⟩, ⟨by (with_reducible repeat (first | apply Kd.R_alloc | apply Kd.R_drewN | apply Kd.R_drew)); exact HO_5.out⟩, ⟨by repeat (first | (with_reducible first | exact HB.out | apply below_alloc | apply pw_below_drewN | apply below_drew1) | exact HB.out)⟩⟩
   rw [if_pos c7] at H
   have c7b0 : (((rd_T55 l0 x6_1).f2) == a1) = true := beq_iff_eq.mpr c7
   have c7b1 : (((rd_T55 l0 x6_1).f2) != a1) = false := bne_eq_false_iff_eq.mpr c7
   clear c7
   by_cases c8 : x5_1.length < 17592186044416
   rotate_left
   ·rw [if_neg c8] at H
    exact absurd H (by simp)
   rw [if_pos c8] at H
   have LMc8 := Aside0.mk c8
   clear c8
   obtain ⟨y238, hy238⟩ : ∃ y_ : List Int, y_ = (x5_1 ++ [x6_1]) := ⟨_, rfl⟩
   replace H : (semblanceref10_Kids.l0 k1 l0 a1 y238 (wrap64 (x6_1 + 1))) = some r := by first | (rw [hy238]; with_reducible exact H) | (have H2_ := (Option.bind_some _ _).symm.trans H; rw [hy238]; with_reducible exact H2_) | (have H2_ := (Option.bind_some _ _).symm.trans H; with_reducible exact H2_) | with_reducible exact H | (rw [hy238]; exact H) | exact H
   have Ny238 := Aside0.mk hy238
   clear hy238
   have H' := Aside0.mk H
   clear H
   have p237 : 0 ≤ (x6_1 : Int) := of_decide_eq_true (by first | (with_reducible assumption) | assumption)
   have q237 : x6_1 < (l0.length : Int) := of_decide_eq_true (by first | (with_reducible assumption) | assumption)
   obtain ⟨ad237, A237_3, c237_3, A237_4, c237_4, A237_5, c237_5, e237, hx237_0, hx237_1, hx237_2, hx237_3, hx237_4, hx237_5, hl237_3, hi237_3, hl237_4, hi237_4, hl237_5, hi237_5⟩ := at_T55 HR0.out x6_1 p237 q237
   cases e237
   replace hx237_0 := hc30_ HB.out hx237_0
   replace hx237_1 := hc30_ HB.out hx237_1
   replace hx237_2 := hc30_ HB.out hx237_2
   replace hx237_3 := hc30_ HB.out hx237_3
   replace hx237_4 := hc30_ HB.out hx237_4
   replace hx237_5 := hc30_ HB.out hx237_5
   have HR237_3 := Aside0.mk hi237_3
   have HC237_3 := Aside0.mk hl237_3
   clear hi237_3 hl237_3
   have HR237_4 := Aside0.mk hi237_4
   have HC237_4 := Aside0.mk hl237_4
   clear hi237_4 hl237_4
   have HR237_5 := Aside0.mk hi237_5
   have HC237_5 := Aside0.mk hl237_5
   clear hi237_5 hl237_5
   replace p237 := eq_true p237
   replace q237 := eq_true q237
   go_wp2_with (first | ((with_reducible refine gate_builtin (b := .append) (xs := #[.tmp 21, .tmp 23]) rfl ?_); at_builtin; refine Kd.R_append (Kd.int .i64) (w0 := w) w.heap.size rfl (.tmp 21) (.tmp 23) 45 3 (.int .i64 0) 8 rfl Try.underlying45 info3 rfl (by decide) (by omega) u5 x5_1 x6_1 [.int .i64 x6_1] (fun _ => True) (fun _ => False) rfl rfl ?aP (fun _ hk => hk.elim) ?aF ?aO ?aB ?aS ?aL ?_; (case aP => exact rfl); (case aB => exact (brw HB.out)); (case aF => exact (fun _ _ => trivial)); (case aO => exact (by (with_reducible repeat (first | apply Kd.R_alloc | apply Kd.R_drewN | apply Kd.R_drew)); exact HO_5.out)); (case aS => exact (below_size (brw HB.out))); (case aL => have := LMc8.out; omega); intro v239 w9 ho hb hg hat; rw [← Ny238.out] at ho; have n0_ := Aside0.mk (hb); have n1_ := Aside0.mk (ho); clear HB; clear HO_5; have HB := n0_; have HO240 := n1_; clear n0_ n1_; clear ho hb hg hat))
   go_roundg k1
   case measure => have := HK1.out; omega
   case rel => exact ⟨(y238), (wrap64 (x6_1 + 1)), (by first | rfl | (simp; done) | (simp [*]; done)), H', ⟨by have := HK1.out; omega⟩, ⟨by (with_reducible repeat (first | apply Kd.R_alloc | apply Kd.R_drewN | apply Kd.R_drew)); exact HO240.out⟩, ⟨by repeat (first | (with_reducible first | exact HB.out | apply below_alloc | apply pw_below_drewN | apply below_drew1) | exact HB.out)⟩⟩
end Go.Proofs.Ytoeioigpkfgppaa.XR
