-- written by wip/xprint.py out of the translation
import Derived.Test.YtoeioigpkfgppaaXVp0
import Derived.Test.YtoeioigpkfgppaaXVp7
import Derived.Test.YtoeioigpkfgppaaXVp8
import Derived.Test.YtoeioigpkfgppaaXVp9
namespace Go.Proofs.Ytoeioigpkfgppaa.XV
open Go.Proofs.Ytoeioigpkfgppaa.XGrow Go.RowKit Go.Proofs.YtoeioigpkfgppaaW.PrintWords Go.Proofs.YtoeioigpkfgppaaW.PrintLast Go.Proofs.YtoeioigpkfgppaaW.PrintMore
attribute [local go_sem] max2_int min2_int max_two min_two max_three min_three max_four min_four   -- for this text's walks alone
set_option linter.unusedVariables false
set_option linter.unusedSimpArgs false

/-! ### semblanceref07_At: function 21 -/
/-- one of four -/
def arr4 (a b c d i : Int) : Option Int := if i = 0 then some a else if i = 1 then some b else if i = 2 then some c else if i = 3 then some d else none
theorem arr4_cases {a b c d i v : Int} (h : arr4 a b c d i = some v) : (i = 0 ∧ v = a) ∨ (i = 1 ∧ v = b) ∨ (i = 2 ∧ v = c) ∨ (i = 3 ∧ v = d) := by
  unfold arr4 at h
  split at h
  · exact .inl ⟨by assumption, (Option.some.inj h).symm⟩
  split at h
  · exact .inr (.inl ⟨by assumption, (Option.some.inj h).symm⟩)
  split at h
  · exact .inr (.inr (.inl ⟨by assumption, (Option.some.inj h).symm⟩))
  split at h
  · exact .inr (.inr (.inr ⟨by assumption, (Option.some.inj h).symm⟩))
  cases h
theorem arr4_ge {a b c d i v : Int} (h : arr4 a b c d i = some v) : (0 ≤ i) = True := eq_true (by rcases arr4_cases h with h | h | h | h <;> omega)
theorem arr4_lt {a b c d i v : Int} (h : arr4 a b c d i = some v) : (i < 4) = True := eq_true (by rcases arr4_cases h with h | h | h | h <;> omega)
theorem arr4_cell {a b c d i v : Int} (h : arr4 a b c d i = some v) {w : World} {g : Nat} {t : TypeId} {s0 s5 : Value} (hk : w.heap[g]? = some (.cells #[s0, .int .i64 a, .int .i64 b, .int .i64 c, .int .i64 d, s5] t (0, 0))) : w.cell? ⟨g, 1 + i.toNat, none⟩ = some (.int .i64 v) := by
  obtain ⟨_, h1, h2, h3, h4, _⟩ := cz6_ hk
  rcases arr4_cases h with ⟨rfl, rfl⟩ | ⟨rfl, rfl⟩ | ⟨rfl, rfl⟩ | ⟨rfl, rfl⟩
  · exact h1
  · exact h2
  · exact h3
  · exact h4
mutual
def semblanceref07_At.j0 : Nat → List (S47) → List Int → Int → Int → List (S51) → Int → Int → Int → Int → List ByteArray → Int → Int → ByteArray → Option (Int)
  | 0, _, _, _, _, _, _, _, _, _, _, _, _, _ => none
  | k + 1, x0, x8, x9, x10, x227000, x227001, x227002, x227003, x227004, x227005, x229000, x229001, x229002 => if (x8.length : Int) > 1 then (if 1 < (x8.length : Int) then ((semblanceref07_At.f k x0 (rd x8 1) x227000 x227001 x227002 x227003 x227004 x227005).bind fun t235 => (semblanceref07_At.j1 k x9 t235 x227000 x227001 x227002 x227003 x227004 x227005 x229000 x229001 x229002)) else (none)) else (semblanceref07_At.j1 k x9 x10 x227000 x227001 x227002 x227003 x227004 x227005 x229000 x229001 x229002)
def semblanceref07_At.j1 : Nat → Int → Int → List (S51) → Int → Int → Int → Int → List ByteArray → Int → Int → ByteArray → Option (Int)
  | 0, _, _, _, _, _, _, _, _, _, _, _ => none
  | k + 1, x9, x10, x227000, x227001, x227002, x227003, x227004, x227005, x229000, x229001, x229002 => if x229000 = 1 then (some x229001) else (if x229000 = 2 then ((semblanceref07_Place.f k x227000 x227001 x227002 x227003 x227004 x227005 x229002).bind fun t236 => ((arr4 x227001 x227002 x227003 x227004 t236).bind fun z0 => ((semblanceref01_Near.f z0).bind fun t237 => (some t237)))) else (if x229000 = 3 then (some (wrap64 (-x9))) else (if x229000 = 4 then ((semblanceref01_Near.f (wrap64 (x9 + x10))).bind fun t238 => (some t238)) else (if x229000 = 5 then ((semblanceref01_Near.f (wrap64 (x9 - x10))).bind fun t239 => (some t239)) else (if x229000 = 6 then ((semblanceref01_Near.f (wrap64 (x9 * x10))).bind fun t240 => (some t240)) else (if x229000 = 7 then (if x9 < x10 then (some x9) else (some x10)) else (if x229000 = 8 then (if x9 > x10 then (some x9) else (some x10)) else (if x229000 = 9 then (some 1) else (if x229000 = 10 then (some 0) else (if x229000 = 11 then ((semblanceref02_Place.f k x227005 x229002).bind fun t241 => ((semblanceref07_is.f (decide (t241 ≥ 0))).bind fun t242 => (some t242))) else (if x229000 = 12 then ((semblanceref07_is.f (x9 == 0)).bind fun t243 => (some t243)) else (if x229000 = 13 then ((semblanceref07_is.f (x9 == x10)).bind fun t244 => (some t244)) else (if x229000 = 14 then ((semblanceref07_is.f (x9 != x10)).bind fun t245 => (some t245)) else (if x229000 = 15 then ((semblanceref07_is.f (decide (x9 < x10))).bind fun t246 => (some t246)) else (if x229000 = 16 then ((semblanceref07_is.f (decide (x9 ≤ x10))).bind fun t247 => (some t247)) else (if x229000 = 17 then ((semblanceref07_is.f (decide (x9 > x10))).bind fun t248 => (some t248)) else (if x229000 = 18 then ((semblanceref07_is.f (decide (x9 ≥ x10))).bind fun t249 => (some t249)) else (if x229000 = 19 then (if x9 = 1 then ((semblanceref07_is.f (x10 == 1)).bind fun t250 => (some t250)) else ((semblanceref07_is.f false).bind fun t251 => (some t251))) else (if x9 = 1 then ((semblanceref07_is.f true).bind fun t252 => (some t252)) else ((semblanceref07_is.f (x10 == 1)).bind fun t253 => (some t253)))))))))))))))))))))
def semblanceref07_At.f : Nat → List (S47) → Int → List (S51) → Int → Int → Int → Int → List ByteArray → Option (Int)
  | 0, _, _, _, _, _, _, _, _ => none
  | k + 1, l0, a1, l2_0, a2_1, a2_2, a2_3, a2_4, l2_5 => if 0 ≤ a1 then (if a1 < (l0.length : Int) then ((semblanceref05_Below.f k l0 a1).bind fun t229 => (if (t229.length : Int) > 0 then (if 0 < (t229.length : Int) then ((semblanceref07_At.f k l0 (rd t229 0) l2_0 a2_1 a2_2 a2_3 a2_4 l2_5).bind fun t233 => (semblanceref07_At.j0 k l0 t229 t233 0 l2_0 a2_1 a2_2 a2_3 a2_4 l2_5 ((rd_T47 l0 a1).f0) ((rd_T47 l0 a1).f1) ((rd_T47 l0 a1).f2))) else (none)) else (semblanceref07_At.j0 k l0 t229 0 0 l2_0 a2_1 a2_2 a2_3 a2_4 l2_5 ((rd_T47 l0 a1).f0) ((rd_T47 l0 a1).f1) ((rd_T47 l0 a1).f2)))) else (none)) else (none)
end
theorem semblanceref07_At.mono_l : ∀ k, (∀ y0 y1 y2 y3 y4 y5 y6 y7, LeO (semblanceref07_At.f k y0 y1 y2 y3 y4 y5 y6 y7) (semblanceref07_At.f (k + 1) y0 y1 y2 y3 y4 y5 y6 y7)) ∧ (∀ y0 y1 y2 y3 y4 y5 y6 y7 y8 y9 y10 y11 y12, LeO (semblanceref07_At.j0 k y0 y1 y2 y3 y4 y5 y6 y7 y8 y9 y10 y11 y12) (semblanceref07_At.j0 (k + 1) y0 y1 y2 y3 y4 y5 y6 y7 y8 y9 y10 y11 y12)) ∧ (∀ y0 y1 y2 y3 y4 y5 y6 y7 y8 y9 y10, LeO (semblanceref07_At.j1 k y0 y1 y2 y3 y4 y5 y6 y7 y8 y9 y10) (semblanceref07_At.j1 (k + 1) y0 y1 y2 y3 y4 y5 y6 y7 y8 y9 y10))
  | 0 => ⟨fun _ _ _ _ _ _ _ _ r h => by simp [semblanceref07_At.f] at h, fun _ _ _ _ _ _ _ _ _ _ _ _ _ r h => by simp [semblanceref07_At.j0] at h, fun _ _ _ _ _ _ _ _ _ _ _ r h => by simp [semblanceref07_At.j1] at h⟩
  | k + 1 => by
    obtain ⟨ih0, ih1, ih2⟩ := semblanceref07_At.mono_l k
    refine ⟨?_, ?_, ?_⟩
    · intro y0 y1 y2 y3 y4 y5 y6 y7
      unfold semblanceref07_At.f
      repeat' first
      | (with_reducible exact ih0 _ _ _ _ _ _ _ _)
      | (with_reducible exact ih1 _ _ _ _ _ _ _ _ _ _ _ _ _)
      | (with_reducible exact ih2 _ _ _ _ _ _ _ _ _ _ _)
      | (with_reducible exact semblanceref02_Place.mono _ _ _)
      | (with_reducible exact semblanceref05_Below.mono _ _ _)
      | (with_reducible exact semblanceref07_Place.mono _ _ _ _ _ _ _ _)
      | (with_reducible exact LeO.refl _)
      | (with_reducible exact LeO.none _)
      | (with_reducible refine LeO.ite ?_ ?_)
      | (with_reducible refine LeO.bind ?_ (fun _ => ?_))
      | exact ih0 _ _ _ _ _ _ _ _
      | exact ih1 _ _ _ _ _ _ _ _ _ _ _ _ _
      | exact ih2 _ _ _ _ _ _ _ _ _ _ _
      | exact semblanceref02_Place.mono _ _ _
      | exact semblanceref05_Below.mono _ _ _
      | exact semblanceref07_Place.mono _ _ _ _ _ _ _ _
      | exact LeO.none _
      | refine LeO.ite ?_ ?_
      | refine LeO.bind ?_ (fun _ => ?_)
    · intro y0 y1 y2 y3 y4 y5 y6 y7 y8 y9 y10 y11 y12
      unfold semblanceref07_At.j0
      repeat' first
      | (with_reducible exact ih0 _ _ _ _ _ _ _ _)
      | (with_reducible exact ih1 _ _ _ _ _ _ _ _ _ _ _ _ _)
      | (with_reducible exact ih2 _ _ _ _ _ _ _ _ _ _ _)
      | (with_reducible exact semblanceref02_Place.mono _ _ _)
      | (with_reducible exact semblanceref05_Below.mono _ _ _)
      | (with_reducible exact semblanceref07_Place.mono _ _ _ _ _ _ _ _)
      | (with_reducible exact LeO.refl _)
      | (with_reducible exact LeO.none _)
      | (with_reducible refine LeO.ite ?_ ?_)
      | (with_reducible refine LeO.bind ?_ (fun _ => ?_))
      | exact ih0 _ _ _ _ _ _ _ _
      | exact ih1 _ _ _ _ _ _ _ _ _ _ _ _ _
      | exact ih2 _ _ _ _ _ _ _ _ _ _ _
      | exact semblanceref02_Place.mono _ _ _
      | exact semblanceref05_Below.mono _ _ _
      | exact semblanceref07_Place.mono _ _ _ _ _ _ _ _
      | exact LeO.none _
      | refine LeO.ite ?_ ?_
      | refine LeO.bind ?_ (fun _ => ?_)
    · intro y0 y1 y2 y3 y4 y5 y6 y7 y8 y9 y10
      unfold semblanceref07_At.j1
      repeat' first
      | (with_reducible exact ih0 _ _ _ _ _ _ _ _)
      | (with_reducible exact ih1 _ _ _ _ _ _ _ _ _ _ _ _ _)
      | (with_reducible exact ih2 _ _ _ _ _ _ _ _ _ _ _)
      | (with_reducible exact semblanceref02_Place.mono _ _ _)
      | (with_reducible exact semblanceref05_Below.mono _ _ _)
      | (with_reducible exact semblanceref07_Place.mono _ _ _ _ _ _ _ _)
      | (with_reducible exact LeO.refl _)
      | (with_reducible exact LeO.none _)
      | (with_reducible refine LeO.ite ?_ ?_)
      | (with_reducible refine LeO.bind ?_ (fun _ => ?_))
      | exact ih0 _ _ _ _ _ _ _ _
      | exact ih1 _ _ _ _ _ _ _ _ _ _ _ _ _
      | exact ih2 _ _ _ _ _ _ _ _ _ _ _
      | exact semblanceref02_Place.mono _ _ _
      | exact semblanceref05_Below.mono _ _ _
      | exact semblanceref07_Place.mono _ _ _ _ _ _ _ _
      | exact LeO.none _
      | refine LeO.ite ?_ ?_
      | refine LeO.bind ?_ (fun _ => ?_)
theorem semblanceref07_At.mono : ∀ a0 a1 a2 a3 a4 a5 a6 a7 k, LeO (semblanceref07_At.f k a0 a1 a2 a3 a4 a5 a6 a7) (semblanceref07_At.f (k + 1) a0 a1 a2 a3 a4 a5 a6 a7) := by
  intro a0 a1 a2 a3 a4 a5 a6 a7 k
  obtain ⟨ih0, ih1, ih2⟩ := semblanceref07_At.mono_l k
  exact ih0 a0 a1 a2 a3 a4 a5 a6 a7
abbrev bw26_0 : Array Bool := #[false, false, false, false, false, false, false]
abbrev bw26_1 : Array Bool := #[true, false, false, false, false, false, false]
abbrev bw26_2 : Array Bool := #[true, true, false, false, false, false, false]
abbrev bw26_3 : Array Bool := #[true, true, true, false, false, false, false]
abbrev bw26_4 : Array Bool := #[true, true, true, true, false, false, false]
abbrev bw26_5 : Array Bool := #[true, true, true, true, true, false, false]
abbrev bw26_6 : Array Bool := #[true, true, true, true, true, true, false]
abbrev bw26_7 : Array Bool := #[true, true, true, true, true, true, true]
theorem hc26_ {w W : World} {a : Addr} {v : Value} (hb : Below w.heap.size w W) (h : w.cell? a = some v) : W.cell? a = some v := (hb.cell (World.block_lt_of_cell? w _ h)).trans h
theorem bz26_ {W W2 w : World} (_ : Below W.heap.size W W2) (h : Below w.heap.size w W) : Below w.heap.size w W := h
set_option maxHeartbeats 8000000 in
set_option maxRecDepth 100000 in
theorem semblanceref07_At.calls (k : Nat) : ∀ (A0 : Option Addr) (c0 : Nat) (l0 : List (S47)) (a1 : Int) (A2_0 : Option Addr) (c2_0 : Nat) (l2_0 : List (S51)) (a2_1 : Int) (a2_2 : Int) (a2_3 : Int) (a2_4 : Int) (A2_5 : Option Addr) (c2_5 : Nat) (l2_5 : List ByteArray) (r : Int) (w : World) (hr0 : Kd.C k47 w A0 l0.length l0) (hc0 : l0.length ≤ c0) (hr2_0 : Kd.C k51 w A2_0 l2_0.length l2_0) (hc2_0 : l2_0.length ≤ c2_0) (hr2_5 : Kd.C Kd.string w A2_5 l2_5.length l2_5) (hc2_5 : l2_5.length ≤ c2_5) (h : semblanceref07_At.f k l0 a1 l2_0 a2_1 a2_2 a2_3 a2_4 l2_5 = some r),
  Calls Try.prog 21 #[.slice A0 l0.length c0, .int .i64 a1, .agg #[.slice A2_0 l2_0.length c2_0, .int .i64 a2_1, .int .i64 a2_2, .int .i64 a2_3, .int .i64 a2_4, .slice A2_5 l2_5.length c2_5]] w fun e w' => e = .returned (.int .i64 r) ∧ Below w.heap.size w w' := by
 induction k using Nat.strongRecOn with
 | _ k ih =>
 intro A0 c0 l0 a1 A2_0 c2_0 l2_0 a2_1 a2_2 a2_3 a2_4 A2_5 c2_5 l2_5 r w hr0 hc0 hr2_0 hc2_0 hr2_5 hc2_5 h
 cases k with
 | zero => exact absurd h (by simp [semblanceref07_At.f])
 | succ k =>
 simp only [semblanceref07_At.f] at h
 have hu36 := Try.underlying36
 have hu47 := Try.underlying47
 have HR0 := Aside0.mk hr0
 have HC0 := Aside0.mk hc0
 clear hr0 hc0
 have HR2_0 := Aside0.mk hr2_0
 have HC2_0 := Aside0.mk hc2_0
 clear hr2_0 hc2_0
 have HR2_5 := Aside0.mk hr2_5
 have HC2_5 := Aside0.mk hc2_5
 clear hr2_5 hc2_5
 have HB := Aside0.mk (Below.refl w.heap.size w)
 have H : (if 0 ≤ a1 then (if a1 < (l0.length : Int) then ((semblanceref05_Below.f k l0 a1).bind fun t229 => (if (t229.length : Int) > 0 then (if 0 < (t229.length : Int) then ((semblanceref07_At.f k l0 (rd t229 0) l2_0 a2_1 a2_2 a2_3 a2_4 l2_5).bind fun t233 => (semblanceref07_At.j0 k l0 t229 t233 0 l2_0 a2_1 a2_2 a2_3 a2_4 l2_5 ((rd_T47 l0 a1).f0) ((rd_T47 l0 a1).f1) ((rd_T47 l0 a1).f2))) else (none)) else (semblanceref07_At.j0 k l0 t229 0 0 l2_0 a2_1 a2_2 a2_3 a2_4 l2_5 ((rd_T47 l0 a1).f0) ((rd_T47 l0 a1).f1) ((rd_T47 l0 a1).f2)))) else (none)) else (none)) = some r := h
 clear h
 by_cases c4 : 0 ≤ a1
 rotate_left
 ·rw [if_neg c4] at H
  exact absurd H (by simp)

 rw [if_pos c4] at H
 have c4b0 : decide (0 ≤ a1) = true := decide_eq_true c4
 clear c4
 by_cases c5 : a1 < (l0.length : Int)
 rotate_left
 ·rw [if_neg c5] at H
  exact absurd H (by simp)
 rw [if_pos c5] at H
 have c5b0 : decide (a1 < (l0.length : Int)) = true := decide_eq_true c5
 clear c5
 replace H := Option.bind_eq_some_iff.mp H
 obtain ⟨t229, A60, H⟩ := H
 replace H : (if (t229.length : Int) > 0 then (if 0 < (t229.length : Int) then ((semblanceref07_At.f k l0 (rd t229 0) l2_0 a2_1 a2_2 a2_3 a2_4 l2_5).bind fun t233 => (semblanceref07_At.j0 k l0 t229 t233 0 l2_0 a2_1 a2_2 a2_3 a2_4 l2_5 ((rd_T47 l0 a1).f0) ((rd_T47 l0 a1).f1) ((rd_T47 l0 a1).f2))) else (none)) else (semblanceref07_At.j0 k l0 t229 0 0 l2_0 a2_1 a2_2 a2_3 a2_4 l2_5 ((rd_T47 l0 a1).f0) ((rd_T47 l0 a1).f1) ((rd_T47 l0 a1).f2))) = some r := H
 have A6 := Aside0.mk A60
 clear A60
 have HC7 := Aside0.mk H
 clear H
 go_enter Try.func21, Try.ntmps21
 go_upto_if 20 with (first | ((with_reducible refine gate_dst (N := 5) rfl ?_); refine box_event ?hg (N := 5) ?hd (cs := #[.slice A2_0 l2_0.length c2_0, .int .i64 a2_1, .int .i64 a2_2, .int .i64 a2_3, .int .i64 a2_4, .slice A2_5 l2_5.length c2_5]) (t := 36) ?hr ?_; (case hd => rfl); (case hg => rfl); (case hr => first | (go_simp; done) | (go_simp; rfl)); intro gb226 hg w8 hbox hb; have hB_ := bz26_ hb (brw HB.out); have n0_ := Aside0.mk (below_step hB_ hb); have n1_ := Aside0.mk (hbox); have n2_ := Aside0.mk ((by rw [hg]; exact (below_size hB_) : w.heap.size ≤ gb226)); have n3_ := Aside0.mk ((by rw [hg]; exact (below_size hB_) : w.heap.size ≤ gb226)); clear HB; have HB := n0_; have BK226 := n1_; have GW226 := n2_; have GE226 := n3_; clear n0_ n1_ n2_ n3_; clear hb hbox hg; have p227 : 0 ≤ (a1 : Int) := of_decide_eq_true (by first | (with_reducible assumption) | assumption); have q227 : a1 < (l0.length : Int) := of_decide_eq_true (by first | (with_reducible assumption) | assumption); obtain ⟨ad227, e227, hx227_0, hx227_1, hx227_2⟩ := at_T47 HR0.out a1 p227 q227; cases e227; replace hx227_0 := hc26_ HB.out hx227_0; replace hx227_1 := hc26_ HB.out hx227_1; replace hx227_2 := hc26_ HB.out hx227_2; replace p227 := eq_true p227; replace q227 := eq_true q227) | ((with_reducible refine gate_dst (N := 7) rfl ?_); refine box_event ?hg (N := 7) ?hd (cs := #[.int .i64 0, .int .i64 0, .string (⟨#[]⟩ : ByteArray)]) (t := 47) ?hr ?_; (case hd => rfl); (case hg => rfl); (case hr => first | (go_simp; done) | (go_simp; rfl)); intro gb228 hg w9 hbox hb; have hB_ := bz26_ hb (by repeat (first | (with_reducible first | exact HB.out | apply below_alloc | apply pw_below_drewN | apply below_drew1 | refine below_set ?_ GE226.out) | exact HB.out)); have n0_ := Aside0.mk (blk_below (grw BK226.out) hb); have n1_ := Aside0.mk (below_step hB_ hb); have n2_ := Aside0.mk (hbox); have n3_ := Aside0.mk ((by rw [hg]; exact (below_size hB_) : w.heap.size ≤ gb228)); have n4_ := Aside0.mk ((by rw [hg]; exact (below_size hB_) : w.heap.size ≤ gb228)); have n5_ := Aside0.mk ((by rw [hg]; exact Nat.ne_of_lt (blk_lt (grw BK226.out)) : gb226 ≠ gb228)); have n6_ := Aside0.mk ((by rw [hg]; exact Nat.ne_of_gt (blk_lt (grw BK226.out)) : gb228 ≠ gb226)); clear BK226; clear HB; have BK226 := n0_; have HB := n1_; have BK228 := n2_; have GW228 := n3_; have GE228 := n4_; have NB226_228 := n5_; have NB228_226 := n6_; clear n0_ n1_ n2_ n3_ n4_ n5_ n6_; clear hb hbox hg; have hnb10 := NB228_226.out; have hnc10 := NB226_228.out; obtain ⟨hcz11_0, hcz11_1, hcz11_2⟩ := cz3_ BK228.out; obtain ⟨hfz11_0, hfz11_1, hfz11_2⟩ := cf3_ BK228.out) | ((with_reducible refine gate_callee (f := 57) rfl ?_); refine goesL_ (some 17) rfl rfl Try.func57 (by kernel_rfl) rfl #[.slice (some ad227) l0.length c0, .int .i64 a1] rfl (by (try simp only [List.map_toArray, List.map_cons, List.map_nil]); first | done | rfl | (simp only [List.length_drop, List.length_take]; rfl)) ?_; (with_reducible refine (semblanceref05_Below.calls k _ _ l0 a1 t229 _ ?side1 ?side2 A6.out).mono ?_); (case side1 => exact Kd.C_below HR0.out (by repeat (first | (with_reducible first | exact HB.out | apply below_alloc | apply pw_below_drewN | apply below_drew1 | refine below_set ?_ GE226.out | refine below_set ?_ GE228.out) | exact HB.out))); (case side2 => exact HC0.out); rintro e w12 ⟨v230, rfl, ho0, hb⟩; have hB_ := bz26_ hb (by repeat (first | (with_reducible first | exact HB.out | apply below_alloc | apply pw_below_drewN | apply below_drew1 | refine below_set ?_ GE226.out | refine below_set ?_ GE228.out) | exact HB.out)); refine ⟨_, rfl, ?_⟩; have n0_ := Aside0.mk (Kd.R_lower ho0 (below_size hB_)); have n1_ := Aside0.mk (blk_below (g := gb226) (o := .cells #[.slice A2_0 l2_0.length c2_0, .int .i64 a2_1, .int .i64 a2_2, .int .i64 a2_3, .int .i64 a2_4, .slice A2_5 l2_5.length c2_5] 36 (0, 0)) (by refine grO ?_; refine blk_far ?_ NB226_228.out _; refine grO ?_; refine blk_far ?_ NB226_228.out _; refine grO ?_; refine blk_far ?_ NB226_228.out _; refine grO ?_; exact BK226.out) hb); have n2_ := Aside0.mk (blk_below (g := gb228) (o := .cells #[.int .i64 ((rd_T47 l0 a1).f0), .int .i64 ((rd_T47 l0 a1).f1), .string ((rd_T47 l0 a1).f2)] 47 (0, 0)) (by refine grO ?_; refine blk_put (cs := #[.int .i64 ((rd_T47 l0 a1).f0), .int .i64 ((rd_T47 l0 a1).f1), .string (⟨#[]⟩ : ByteArray)]) ?_ 2 _ rfl; refine grO ?_; refine blk_put (cs := #[.int .i64 ((rd_T47 l0 a1).f0), .int .i64 0, .string (⟨#[]⟩ : ByteArray)]) ?_ 1 _ rfl; refine grO ?_; refine blk_put (cs := #[.int .i64 0, .int .i64 0, .string (⟨#[]⟩ : ByteArray)]) ?_ 0 _ rfl; refine grO ?_; exact BK228.out) hb); have n3_ := Aside0.mk (below_step hB_ hb); clear BK226; clear BK228; clear HB; have HO231 := n0_; have BK226 := n1_; have BK228 := n2_; have HB := n3_; clear n0_ n1_ n2_ n3_; (try clear hb); (try clear hb2); (try clear hk); (try clear hi); (try clear ho0); obtain ⟨Ao13, co13, eo13⟩ := Kd.R_slice HO231.out; subst eo13))
 (try simp only [Act.put, sb_, s0_, s1_])
 go_cut [9] (fun v9 wc => ∃ (kq : Nat) (x9_6 : Int), v9 = .int .i64 x9_6 ∧ Aside0 (semblanceref07_At.j0 kq l0 t229 x9_6 0 l2_0 a2_1 a2_2 a2_3 a2_4 l2_5 ((rd_T47 l0 a1).f0) ((rd_T47 l0 a1).f1) ((rd_T47 l0 a1).f2) = some r) ∧ Aside0 (kq ≤ k) ∧ Aside0 (Kd.R (Kd.int .i64) 3 wc w.heap.size (fun _ => True) (.slice Ao13 t229.length co13) t229) ∧ Aside0 (wc.heap[gb226]? = some (.cells #[(.slice A2_0 l2_0.length c2_0), .int .i64 a2_1, .int .i64 a2_2, .int .i64 a2_3, .int .i64 a2_4, (.slice A2_5 l2_5.length c2_5)] 36 (0, 0))) ∧ Aside0 (wc.heap[gb228]? = some (.cells #[.int .i64 ((rd_T47 l0 a1).f0), .int .i64 ((rd_T47 l0 a1).f1), .string ((rd_T47 l0 a1).f2)] 47 (0, 0))) ∧ Aside0 (Below w.heap.size w wc))
 case first =>
  have H := HC7.out
  clear HC7
  by_cases c14 : (t229.length : Int) > 0
  rotate_left
  ·rw [if_neg c14] at H
   have c14b0 : decide (0 < (t229.length : Int)) = false := decide_eq_false c14
   have c14b1 : decide (0 < t229.length) = false := decide_eq_false (by omega)
   clear c14
   (first | rw [c14b0] | (simp only [i64_w, i32_w]; rw [c14b0]) | rw [c14b1] | skip)
   have H' := Aside0.mk H
   clear H
   go_wp2
   go_meet
   case rel => exact ⟨_, (0), (by first | rfl | (simp; done) | (simp [*]; done)), H', ⟨by first | omega | exact Nat.le_refl _⟩, ⟨by (with_reducible repeat (first | apply Kd.R_alloc | apply Kd.R_drewN | apply Kd.R_drew)); exact HO231.out⟩, ⟨grw BK226.out⟩, ⟨grw BK228.out⟩, ⟨by repeat (first | (with_reducible first | exact HB.out | apply below_alloc | apply pw_below_drewN | apply below_drew1 | refine below_set ?_ GE226.out | refine below_set ?_ GE228.out) | exact HB.out)⟩⟩
  rw [if_pos c14] at H
  have c14b0 : decide (0 < (t229.length : Int)) = true := decide_eq_true c14
  have c14b1 : decide (0 < t229.length) = true := decide_eq_true (by omega)
  clear c14
  (first | rw [c14b0] | (simp only [i64_w, i32_w]; rw [c14b0]) | rw [c14b1] | skip)
  by_cases c15 : 0 < (t229.length : Int)
  rotate_left
  ·rw [if_neg c15] at H
   exact absurd H (by simp)
  rw [if_pos c15] at H
  have c15b0 : decide (0 < (t229.length : Int)) = true := decide_eq_true c15
  have c15b1 : decide (0 < t229.length) = true := decide_eq_true (by omega)
  clear c15
  replace H := Option.bind_eq_some_iff.mp H
  obtain ⟨t233, A160, H⟩ := H
  replace H : (semblanceref07_At.j0 k l0 t229 t233 0 l2_0 a2_1 a2_2 a2_3 a2_4 l2_5 ((rd_T47 l0 a1).f0) ((rd_T47 l0 a1).f1) ((rd_T47 l0 a1).f2)) = some r := H
  have A16 := Aside0.mk A160
  clear A160
  have H' := Aside0.mk H
  clear H
  try go_wp2
  have n0_ := Aside0.mk (Kd.R_drew HO231.out)
  have n1_ := Aside0.mk (blk_drew BK226.out)
  have n2_ := Aside0.mk (blk_drew BK228.out)
  have n3_ := Aside0.mk (below_drew1 HB.out)
  clear HO231
  clear BK226
  clear BK228
  clear HB
  have HO231 := n0_
  have BK226 := n1_
  have BK228 := n2_
  have HB := n3_
  clear n0_ n1_ n2_ n3_
  have p232 : 0 ≤ (0 : Int) := (by omega)
  have q232 : 0 < (t229.length : Int) := of_decide_eq_true (by first | (with_reducible assumption) | assumption)
  obtain ⟨ad232, e232, hx232_0⟩ := Kd.at_int (Kd.R_reads' HO231.out).2.2 0 p232 q232
  cases e232
  have qi232 : (0 < t229.length) = True := eq_true (by omega)
  (try rw [show ((0 : Int)).toNat = 0 from rfl] at hx232_0)
  (try rw [Addr.add_zero'] at hx232_0)
  replace p232 := eq_true p232
  replace q232 := eq_true q232
  refine start_ (n := 7) (S := fun w' => w'.cell? ⟨gb226, 0, none⟩ = some (.slice A2_0 l2_0.length c2_0) ∧ w'.cell? ⟨gb226, 1, none⟩ = some (.int .i64 a2_1) ∧ w'.cell? ⟨gb226, 2, none⟩ = some (.int .i64 a2_2) ∧ w'.cell? ⟨gb226, 3, none⟩ = some (.int .i64 a2_3) ∧ w'.cell? ⟨gb226, 4, none⟩ = some (.int .i64 a2_4) ∧ w'.cell? ⟨gb226, 5, none⟩ = some (.slice A2_5 l2_5.length c2_5) ∧ w'.cell? ad232 = some (.int .i64 (rd t229 0))) (ds := []) bw26_0 (by kernel_rfl) rfl rfl ⟨(blk_cell BK226.out 0).trans rfl, (blk_cell BK226.out 1).trans rfl, (blk_cell BK226.out 2).trans rfl, (blk_cell BK226.out 3).trans rfl, (blk_cell BK226.out 4).trans rfl, (blk_cell BK226.out 5).trans rfl, hx232_0⟩ (fun hHeld => ?_)
  generalize w12.drew = w17 at HO231 BK226 BK228 HB hx232_0 hHeld ⊢
  refine pure_ (i := 0) (N := some 21) (v := ?_) (a' := ?_) bw26_1 rfl rfl (by kernel_rfl) (fun _ _ _ h => h) (Or.inl ⟨by rfl, ?_⟩) ?_ ?_
  rotate_left
  ·intro w'
   go_simp
   with_reducible rfl
  rotate_left
  ·simp only [Act.put, sb_, s0_, s1_, i64_w, i32_w]
   rfl
  refine pure_ (i := 1) (N := some 22) (v := ?_) (a' := ?_) bw26_2 rfl rfl (by kernel_rfl) (fun _ _ _ h => h) (Or.inl ⟨by rfl, ?_⟩) ?_ ?_
  rotate_left
  ·intro w'
   go_simp
   with_reducible rfl
  rotate_left
  ·simp only [Act.put, sb_, s0_, s1_, i64_w, i32_w]
   rfl
  refine pure_ (i := 2) (N := some 23) (v := ?_) (a' := ?_) bw26_3 rfl rfl (by kernel_rfl) (fun _ _ _ h => h) (Or.inl ⟨by rfl, ?_⟩) ?_ ?_
  rotate_left
  ·intro w'
   go_simp
   with_reducible rfl
  rotate_left
  ·simp only [Act.put, sb_, s0_, s1_, i64_w, i32_w]
   rfl
  refine take_ (i := 3) (N := some 24) (v := ?_) (a' := ?_) bw26_4 rfl rfl (by kernel_rfl) (fun _ _ _ h => h) (Or.inl ⟨by rfl, ?_⟩) hHeld ?_ ?_
  rotate_left
  ·rintro w' ⟨s0, s1, s2, s3, s4, s5, s6⟩
   go_simp
   with_reducible rfl
  rotate_left
  ·simp only [Act.put, sb_, s0_, s1_, i64_w, i32_w]
   rfl
  refine take_ (i := 4) (N := some 25) (v := ?_) (a' := ?_) bw26_5 rfl rfl (by kernel_rfl) (fun _ _ _ h => h) (Or.inl ⟨by rfl, ?_⟩) hHeld ?_ ?_
  rotate_left
  ·rintro w' ⟨s0, s1, s2, s3, s4, s5, s6⟩
   go_simp
   with_reducible rfl
  rotate_left
  ·simp only [Act.put, sb_, s0_, s1_, i64_w, i32_w]
   rfl
  refine one_ (i := 5) (N := some 26) bw26_6 rfl rfl (by kernel_rfl) (by decide) (fun K hK => ?_)
  refine goes_ Try.func21 (by kernel_rfl) rfl #[.slice (some ad227) l0.length c0, .int .i64 (rd t229 0), .agg #[.slice A2_0 l2_0.length c2_0, .int .i64 a2_1, .int .i64 a2_2, .int .i64 a2_3, .int .i64 a2_4, .slice A2_5 l2_5.length c2_5]] (by rfl) rfl rfl (by (try simp only [List.map_toArray, List.map_cons, List.map_nil]); first | done | rfl | (simp only [List.length_drop, List.length_take]; rfl)) ?_
  with_reducible refine (ih k (by omega) _ _ l0 (rd t229 0) _ _ l2_0 a2_1 a2_2 a2_3 a2_4 _ _ l2_5 t233 _ ?side1 ?side2 ?side3 ?side4 ?side5 ?side6 A16.out).mono ?_
  (case side1 => repeat (first | exact (Kd.C_below HR0.out HB.out) | (with_reducible refine Kd.C_alloc ?_ _) | (with_reducible refine Kd.C_drewN ?_ _) | (with_reducible refine Kd.C_drew ?_)))
  (case side2 => exact HC0.out)
  (case side3 => repeat (first | exact (Kd.C_below HR2_0.out HB.out) | (with_reducible refine Kd.C_alloc ?_ _) | (with_reducible refine Kd.C_drewN ?_ _) | (with_reducible refine Kd.C_drew ?_)))
  (case side4 => exact HC2_0.out)
  (case side5 => repeat (first | exact (Kd.C_below HR2_5.out HB.out) | (with_reducible refine Kd.C_alloc ?_ _) | (with_reducible refine Kd.C_drewN ?_ _) | (with_reducible refine Kd.C_drew ?_)))
  (case side6 => exact HC2_5.out)
  rintro e w18 ⟨rfl, hb⟩
  have HS6_ := (hb.cell (World.block_lt_of_cell? _ _ (hHeld.2.2.2.2.2.2))).trans (hHeld.2.2.2.2.2.2)
  refine ⟨_, rfl, ?_⟩
  have n0_ := Aside0.mk (Kd.R_below (by (with_reducible repeat (first | apply Kd.R_alloc | apply Kd.R_drewN | apply Kd.R_drew)); exact HO231.out) hb)
  have n1_ := Aside0.mk (blk_below (grw BK226.out) hb)
  have n2_ := Aside0.mk (blk_below (grw BK228.out) hb)
  have n3_ := Aside0.mk (below_step (by repeat (first | (with_reducible first | exact HB.out | apply below_alloc | apply pw_below_drewN | apply below_drew1 | refine below_set ?_ GE226.out | refine below_set ?_ GE228.out) | exact HB.out)) hb)
  clear HO231
  clear BK226
  clear BK228
  clear HB
  have HO231 := n0_
  have BK226 := n1_
  have BK228 := n2_
  have HB := n3_
  clear n0_ n1_ n2_ n3_
  (try clear hb)
  (try clear hb2)
  (try clear hk)
  (try clear hi)
  refine hK.out _ _ ⟨(blk_cell BK226.out 0).trans rfl, (blk_cell BK226.out 1).trans rfl, (blk_cell BK226.out 2).trans rfl, (blk_cell BK226.out 3).trans rfl, (blk_cell BK226.out 4).trans rfl, (blk_cell BK226.out 5).trans rfl, HS6_⟩ (fun hHeld => ?_)
  clear hK K
  refine norm_ (a' := ?_) ?_ ?_
  rotate_left
  ·show Act.put _ (some 26) _ = _
   simp only [Act.put, sb_, s0_, s1_, i64_w, i32_w]
   rfl
  refine pure_ (i := 6) (N := some 9) (v := ?_) (a' := ?_) bw26_7 rfl rfl (by kernel_rfl) (fun _ _ _ h => h) (Or.inl ⟨by rfl, ?_⟩) ?_ ?_
  rotate_left
  ·intro w'
   go_simp
   with_reducible rfl
  rotate_left
  ·simp only [Act.put, sb_, s0_, s1_, i64_w, i32_w]
   rfl
  refine done_ (by kernel_rfl) ?_
  try go_wp2
  go_meet
  case rel => exact ⟨_, (t233), (by first | rfl | (simp; done) | (simp [*]; done)), H', ⟨by first | omega | exact Nat.le_refl _⟩, ⟨by (with_reducible repeat (first | apply Kd.R_alloc | apply Kd.R_drewN | apply Kd.R_drew)); exact HO231.out⟩, ⟨grw BK226.out⟩, ⟨grw BK228.out⟩, ⟨by repeat (first | (with_reducible first | exact HB.out | apply below_alloc | apply pw_below_drewN | apply below_drew1 | refine below_set ?_ GE226.out | refine below_set ?_ GE228.out) | exact HB.out)⟩⟩
 case rest =>
  clear HC7
  try clear c1
  try clear c2
  try clear p2
  try clear q2
  try clear hx2
  try clear qi2
  try clear c4
  try clear c4b0
  try clear c5
  try clear c5b0
  try clear c10
  try clear c14
  try clear c14b0
  try clear c14b1
  try clear c15
  try clear c15b0
  try clear c15b1
  try clear hcz11_0 hcz11_1 hcz11_2
  try clear hfz11_0 hfz11_1 hfz11_2
  try clear hx227_0
  try clear hx227_1
  try clear hx227_2
  try clear hx232_0
  try clear p227
  try clear p232
  try clear q227
  try clear q232
  obtain ⟨kq, x9_6, rfl, HA, HJ6, HO_8, BK226, BK228, HB⟩ := hcut
  cases kq with
  | zero => exact absurd HA.out (by simp [semblanceref07_At.j0])
  | succ kj6 =>
   have H := HA.out
   clear HA
   simp only [semblanceref07_At.j0] at H
   have HC19 := Aside0.mk H
   clear H
   go_upto_if 29 with (fail)
   go_cut [10] (fun v10 wc => ∃ (kq : Nat) (x10_18 : Int), v10 = .int .i64 x10_18 ∧ Aside0 (semblanceref07_At.j1 kq x9_6 x10_18 l2_0 a2_1 a2_2 a2_3 a2_4 l2_5 ((rd_T47 l0 a1).f0) ((rd_T47 l0 a1).f1) ((rd_T47 l0 a1).f2) = some r) ∧ Aside0 (kq ≤ kj6) ∧ Aside0 (wc.heap[gb226]? = some (.cells #[(.slice A2_0 l2_0.length c2_0), .int .i64 a2_1, .int .i64 a2_2, .int .i64 a2_3, .int .i64 a2_4, (.slice A2_5 l2_5.length c2_5)] 36 (0, 0))) ∧ Aside0 (wc.heap[gb228]? = some (.cells #[.int .i64 ((rd_T47 l0 a1).f0), .int .i64 ((rd_T47 l0 a1).f1), .string ((rd_T47 l0 a1).f2)] 47 (0, 0))) ∧ Aside0 (Below w.heap.size w wc))
   case first =>
    have H := HC19.out
    clear HC19
    by_cases c20 : (t229.length : Int) > 1
    rotate_left
    ·rw [if_neg c20] at H
     have c20b0 : decide (1 < (t229.length : Int)) = false := decide_eq_false c20
     have c20b1 : decide (1 < t229.length) = false := decide_eq_false (by omega)
     clear c20
     (first | rw [c20b0] | (simp only [i64_w, i32_w]; rw [c20b0]) | rw [c20b1] | skip)
     have H' := Aside0.mk H
     clear H
     go_wp2
     go_meet
     case rel => exact ⟨_, (0), (by first | rfl | (simp; done) | (simp [*]; done)), H', ⟨by have := HJ6.out; first | omega | exact Nat.le_refl _⟩, ⟨grw BK226.out⟩, ⟨grw BK228.out⟩, ⟨by repeat (first | (with_reducible first | exact HB.out | apply below_alloc | apply pw_below_drewN | apply below_drew1 | refine below_set ?_ GE226.out | refine below_set ?_ GE228.out) | exact HB.out)⟩⟩
    rw [if_pos c20] at H
    have c20b0 : decide (1 < (t229.length : Int)) = true := decide_eq_true c20
    have c20b1 : decide (1 < t229.length) = true := decide_eq_true (by omega)
    clear c20
    (first | rw [c20b0] | (simp only [i64_w, i32_w]; rw [c20b0]) | rw [c20b1] | skip)
    by_cases c21 : 1 < (t229.length : Int)
    rotate_left
    ·rw [if_neg c21] at H
     exact absurd H (by simp)
    rw [if_pos c21] at H
    have c21b0 : decide (1 < (t229.length : Int)) = true := decide_eq_true c21
    have c21b1 : decide (1 < t229.length) = true := decide_eq_true (by omega)
    clear c21
    replace H := Option.bind_eq_some_iff.mp H
    obtain ⟨t235, A220, H⟩ := H
    replace H : (semblanceref07_At.j1 kj6 x9_6 t235 l2_0 a2_1 a2_2 a2_3 a2_4 l2_5 ((rd_T47 l0 a1).f0) ((rd_T47 l0 a1).f1) ((rd_T47 l0 a1).f2)) = some r := H
    have A22 := Aside0.mk A220
    clear A220
    have H' := Aside0.mk H
    clear H
    try go_wp2
    have n0_ := Aside0.mk (Kd.R_drew HO_8.out)
    have n1_ := Aside0.mk (blk_drew BK226.out)
    have n2_ := Aside0.mk (blk_drew BK228.out)
    have n3_ := Aside0.mk (below_drew1 HB.out)
    clear HO_8
    clear BK226
    clear BK228
    clear HB
    have HO_8 := n0_
    have BK226 := n1_
    have BK228 := n2_
    have HB := n3_
    clear n0_ n1_ n2_ n3_
    have p234 : 0 ≤ (1 : Int) := (by omega)
    have q234 : 1 < (t229.length : Int) := of_decide_eq_true (by first | (with_reducible assumption) | assumption)
    obtain ⟨ad234, e234, hx234_0⟩ := Kd.at_int (Kd.R_reads' HO_8.out).2.2 1 p234 q234
    cases e234
    (try simp only [show (1 : Int).toNat = 1 from rfl, Nat.reduceMul, Nat.reduceEqDiff, Go.Addr.add, ↓reduceIte] at hx234_0)
    have qi234 : (1 < t229.length) = True := eq_true (by omega)
    (try rw [show ((1 : Int)).toNat = 1 from rfl] at hx234_0)
    replace p234 := eq_true p234
    replace q234 := eq_true q234
    refine start_ (n := 7) (S := fun w' => w'.cell? ⟨gb226, 0, none⟩ = some (.slice A2_0 l2_0.length c2_0) ∧ w'.cell? ⟨gb226, 1, none⟩ = some (.int .i64 a2_1) ∧ w'.cell? ⟨gb226, 2, none⟩ = some (.int .i64 a2_2) ∧ w'.cell? ⟨gb226, 3, none⟩ = some (.int .i64 a2_3) ∧ w'.cell? ⟨gb226, 4, none⟩ = some (.int .i64 a2_4) ∧ w'.cell? ⟨gb226, 5, none⟩ = some (.slice A2_5 l2_5.length c2_5) ∧ w'.cell? ⟨ad234.block, ad234.off + 1, none⟩ = some (.int .i64 (rd t229 1))) (ds := []) bw26_0 (by kernel_rfl) rfl rfl ⟨(blk_cell BK226.out 0).trans rfl, (blk_cell BK226.out 1).trans rfl, (blk_cell BK226.out 2).trans rfl, (blk_cell BK226.out 3).trans rfl, (blk_cell BK226.out 4).trans rfl, (blk_cell BK226.out 5).trans rfl, hx234_0⟩ (fun hHeld => ?_)
    generalize wc.drew = w23 at HO_8 BK226 BK228 HB hx234_0 hHeld ⊢
    refine pure_ (i := 0) (N := some 30) (v := ?_) (a' := ?_) bw26_1 rfl rfl (by kernel_rfl) (fun _ _ _ h => h) (Or.inl ⟨by rfl, ?_⟩) ?_ ?_
    rotate_left
    ·intro w'
     go_simp
     with_reducible rfl
    rotate_left
    ·simp only [Act.put, sb_, s0_, s1_, i64_w, i32_w]
     rfl
    refine pure_ (i := 1) (N := some 31) (v := ?_) (a' := ?_) bw26_2 rfl rfl (by kernel_rfl) (fun _ _ _ h => h) (Or.inl ⟨by rfl, ?_⟩) ?_ ?_
    rotate_left
    ·intro w'
     go_simp
     with_reducible rfl
    rotate_left
    ·simp only [Act.put, sb_, s0_, s1_, i64_w, i32_w]
     rfl
    refine pure_ (i := 2) (N := some 32) (v := ?_) (a' := ?_) bw26_3 rfl rfl (by kernel_rfl) (fun _ _ _ h => h) (Or.inl ⟨by rfl, ?_⟩) ?_ ?_
    rotate_left
    ·intro w'
     go_simp
     with_reducible rfl
    rotate_left
    ·simp only [Act.put, sb_, s0_, s1_, i64_w, i32_w]
     rfl
    refine take_ (i := 3) (N := some 33) (v := ?_) (a' := ?_) bw26_4 rfl rfl (by kernel_rfl) (fun _ _ _ h => h) (Or.inl ⟨by rfl, ?_⟩) hHeld ?_ ?_
    rotate_left
    ·rintro w' ⟨s0, s1, s2, s3, s4, s5, s6⟩
     go_simp
     with_reducible rfl
    rotate_left
    ·simp only [Act.put, sb_, s0_, s1_, i64_w, i32_w]
     rfl
    refine take_ (i := 4) (N := some 34) (v := ?_) (a' := ?_) bw26_5 rfl rfl (by kernel_rfl) (fun _ _ _ h => h) (Or.inl ⟨by rfl, ?_⟩) hHeld ?_ ?_
    rotate_left
    ·rintro w' ⟨s0, s1, s2, s3, s4, s5, s6⟩
     go_simp
     with_reducible rfl
    rotate_left
    ·simp only [Act.put, sb_, s0_, s1_, i64_w, i32_w]
     rfl
    refine one_ (i := 5) (N := some 35) bw26_6 rfl rfl (by kernel_rfl) (by decide) (fun K hK => ?_)
    refine goes_ Try.func21 (by kernel_rfl) rfl #[.slice (some ad227) l0.length c0, .int .i64 (rd t229 1), .agg #[.slice A2_0 l2_0.length c2_0, .int .i64 a2_1, .int .i64 a2_2, .int .i64 a2_3, .int .i64 a2_4, .slice A2_5 l2_5.length c2_5]] (by rfl) rfl rfl (by (try simp only [List.map_toArray, List.map_cons, List.map_nil]); first | done | rfl | (simp only [List.length_drop, List.length_take]; rfl)) ?_
    with_reducible refine (ih kj6 (by have := HJ6.out; omega) _ _ l0 (rd t229 1) _ _ l2_0 a2_1 a2_2 a2_3 a2_4 _ _ l2_5 t235 _ ?side1 ?side2 ?side3 ?side4 ?side5 ?side6 A22.out).mono ?_
    (case side1 => repeat (first | exact (Kd.C_below HR0.out HB.out) | (with_reducible refine Kd.C_alloc ?_ _) | (with_reducible refine Kd.C_drewN ?_ _) | (with_reducible refine Kd.C_drew ?_)))
    (case side2 => exact HC0.out)
    (case side3 => repeat (first | exact (Kd.C_below HR2_0.out HB.out) | (with_reducible refine Kd.C_alloc ?_ _) | (with_reducible refine Kd.C_drewN ?_ _) | (with_reducible refine Kd.C_drew ?_)))
    (case side4 => exact HC2_0.out)
    (case side5 => repeat (first | exact (Kd.C_below HR2_5.out HB.out) | (with_reducible refine Kd.C_alloc ?_ _) | (with_reducible refine Kd.C_drewN ?_ _) | (with_reducible refine Kd.C_drew ?_)))
    (case side6 => exact HC2_5.out)
    rintro e w24 ⟨rfl, hb⟩
    have HS6_ := (hb.cell (World.block_lt_of_cell? _ _ (hHeld.2.2.2.2.2.2))).trans (hHeld.2.2.2.2.2.2)
    refine ⟨_, rfl, ?_⟩
    have n0_ := Aside0.mk (Kd.R_below (by (with_reducible repeat (first | apply Kd.R_alloc | apply Kd.R_drewN | apply Kd.R_drew)); exact HO_8.out) hb)
    have n1_ := Aside0.mk (blk_below (grw BK226.out) hb)
    have n2_ := Aside0.mk (blk_below (grw BK228.out) hb)
    have n3_ := Aside0.mk (below_step (by repeat (first | (with_reducible first | exact HB.out | apply below_alloc | apply pw_below_drewN | apply below_drew1 | refine below_set ?_ GE226.out | refine below_set ?_ GE228.out) | exact HB.out)) hb)
    clear HO_8
    clear BK226
    clear BK228
    clear HB
    have HO_8 := n0_
    have BK226 := n1_
    have BK228 := n2_
    have HB := n3_
    clear n0_ n1_ n2_ n3_
    (try clear hb)
    (try clear hb2)
    (try clear hk)
    (try clear hi)
    refine hK.out _ _ ⟨(blk_cell BK226.out 0).trans rfl, (blk_cell BK226.out 1).trans rfl, (blk_cell BK226.out 2).trans rfl, (blk_cell BK226.out 3).trans rfl, (blk_cell BK226.out 4).trans rfl, (blk_cell BK226.out 5).trans rfl, HS6_⟩ (fun hHeld => ?_)
    clear hK K
    refine norm_ (a' := ?_) ?_ ?_
    rotate_left
    ·show Act.put _ (some 35) _ = _
     simp only [Act.put, sb_, s0_, s1_, i64_w, i32_w]
     rfl
    refine pure_ (i := 6) (N := some 10) (v := ?_) (a' := ?_) bw26_7 rfl rfl (by kernel_rfl) (fun _ _ _ h => h) (Or.inl ⟨by rfl, ?_⟩) ?_ ?_
    rotate_left
    ·intro w'
     go_simp
     with_reducible rfl
    rotate_left
    ·simp only [Act.put, sb_, s0_, s1_, i64_w, i32_w]
     rfl
    refine done_ (by kernel_rfl) ?_
    try go_wp2
    go_meet
    case rel => exact ⟨_, (t235), (by first | rfl | (simp; done) | (simp [*]; done)), H', ⟨by have := HJ6.out; first | omega | exact Nat.le_refl _⟩, ⟨grw BK226.out⟩, ⟨grw BK228.out⟩, ⟨by repeat (first | (with_reducible first | exact HB.out | apply below_alloc | apply pw_below_drewN | apply below_drew1 | refine below_set ?_ GE226.out | refine below_set ?_ GE228.out) | exact HB.out)⟩⟩
   case rest =>
    clear HC19
    try clear c1
    try clear c2
    try clear p2
    try clear q2
    try clear hx2
    try clear qi2
    try clear c4
    try clear c4b0
    try clear c5
    try clear c5b0
    try clear c10
    try clear c14
    try clear c14b0
    try clear c14b1
    try clear c15
    try clear c15b0
    try clear c15b1
    try clear c20
    try clear c20b0
    try clear c20b1
    try clear c21
    try clear c21b0
    try clear c21b1
    try clear p22
    try clear q22
    try clear hx22
    try clear p23
    try clear q23
    try clear hx23
    try clear qi23
    try clear hcz11_0 hcz11_1 hcz11_2
    try clear hfz11_0 hfz11_1 hfz11_2
    try clear hx227_0
    try clear hx227_1
    try clear hx227_2
    try clear hx232_0
    try clear hx234_0
    try clear p2
    try clear p227
    try clear p232
    try clear p234
    try clear q2
    try clear q227
    try clear q232
    try clear q234
    obtain ⟨kq, x10_18, rfl, HA, HJ18, BK226, BK228, HB⟩ := hcut
    cases kq with
    | zero => exact absurd HA.out (by simp [semblanceref07_At.j1])
    | succ kj18 =>
     have H := HA.out
     clear HA
     simp only [semblanceref07_At.j1] at H
     by_cases c25 : ((rd_T47 l0 a1).f0) = 1
     ·rw [if_pos c25] at H
      have c25b0 : (((rd_T47 l0 a1).f0) == 1) = true := beq_iff_eq.mpr c25
      have c25b1 : (((rd_T47 l0 a1).f0) != 1) = false := bne_eq_false_iff_eq.mpr c25
      clear c25
      obtain rfl := Option.some.inj H
      have hnb26 := NB228_226.out
      have hnc26 := NB226_228.out
      obtain ⟨hcz27_0, hcz27_1, hcz27_2⟩ := cz3_ BK228.out
      obtain ⟨hfz27_0, hfz27_1, hfz27_2⟩ := cf3_ BK228.out
      go_wp2
      go_ret
      exact ⟨by first | rfl | (simp [errW_none, errW_some] <;> rfl) | (simp [*, errW_none, errW_some] <;> rfl), by repeat (first | (with_reducible first | exact HB.out | apply below_alloc | apply pw_below_drewN | apply below_drew1 | refine below_set ?_ GE226.out | refine below_set ?_ GE228.out) | exact HB.out)⟩
     rw [if_neg c25] at H
     have c25b0 : (((rd_T47 l0 a1).f0) == 1) = false := beq_eq_false_iff_ne.mpr c25
     have c25b1 : (((rd_T47 l0 a1).f0) != 1) = true := bne_iff_ne.mpr c25
     by_cases c28 : ((rd_T47 l0 a1).f0) = 2
     ·rw [if_pos c28] at H
      have c28b0 : (((rd_T47 l0 a1).f0) == 2) = true := beq_iff_eq.mpr c28
      have c28b1 : (((rd_T47 l0 a1).f0) != 2) = false := bne_eq_false_iff_eq.mpr c28
      clear c28
      replace H := Option.bind_eq_some_iff.mp H
      obtain ⟨t236, A290, H⟩ := H
      replace H : ((arr4 a2_1 a2_2 a2_3 a2_4 t236).bind fun z0 => ((semblanceref01_Near.f z0).bind fun t237 => (some t237))) = some r := H
      replace H := Option.bind_eq_some_iff.mp H
      obtain ⟨z0, hz0, H⟩ := H
      replace H : ((semblanceref01_Near.f z0).bind fun t237 => (some t237)) = some r := H
      have hjz0 := arr4_ge hz0
      have hjz4 := arr4_lt hz0
      have A29 := Aside0.mk A290
      clear A290
      replace H := Option.bind_eq_some_iff.mp H
      obtain ⟨t237, A300, H⟩ := H
      replace H : (some t237) = some r := H
      have A30 := Aside0.mk A300
      clear A300
      obtain rfl := Option.some.inj H
      have hnb31 := NB228_226.out
      have hnc31 := NB226_228.out
      obtain ⟨hcz32_0, hcz32_1, hcz32_2⟩ := cz3_ BK228.out
      obtain ⟨hfz32_0, hfz32_1, hfz32_2⟩ := cf3_ BK228.out
      obtain ⟨hcz33_0, hcz33_1, hcz33_2, hcz33_3, hcz33_4, hcz33_5⟩ := cz6_ BK226.out
      obtain ⟨hfz33_0, hfz33_1, hfz33_2, hfz33_3, hfz33_4, hfz33_5⟩ := cf6_ BK226.out
      go_wp2_with (first | ((with_reducible refine gate_callee (f := 50) rfl ?_); refine goesL_ (some 47) rfl rfl Try.func50 (by kernel_rfl) rfl #[.agg #[.slice A2_0 l2_0.length c2_0, .int .i64 a2_1, .int .i64 a2_2, .int .i64 a2_3, .int .i64 a2_4, .slice A2_5 l2_5.length c2_5], .string ((rd_T47 l0 a1).f2)] rfl (by (try simp only [List.map_toArray, List.map_cons, List.map_nil]); first | done | rfl | (simp only [List.length_drop, List.length_take]; rfl)) ?_; (with_reducible refine (semblanceref07_Place.calls kj18 _ _ l2_0 a2_1 a2_2 a2_3 a2_4 _ _ l2_5 ((rd_T47 l0 a1).f2) t236 _ ?side1 ?side2 ?side3 ?side4 A29.out).mono ?_); (case side1 => repeat (first | exact (Kd.C_below HR2_0.out HB.out) | (with_reducible refine Kd.C_alloc ?_ _) | (with_reducible refine Kd.C_drewN ?_ _) | (with_reducible refine Kd.C_drew ?_))); (case side2 => exact HC2_0.out); (case side3 => repeat (first | exact (Kd.C_below HR2_5.out HB.out) | (with_reducible refine Kd.C_alloc ?_ _) | (with_reducible refine Kd.C_drewN ?_ _) | (with_reducible refine Kd.C_drew ?_))); (case side4 => exact HC2_5.out); rintro e w34 ⟨rfl, hb⟩; refine ⟨_, rfl, ?_⟩; have n0_ := Aside0.mk (blk_below (grw BK226.out) hb); have n1_ := Aside0.mk (blk_below (grw BK228.out) hb); have n2_ := Aside0.mk (below_step (by repeat (first | (with_reducible first | exact HB.out | apply below_alloc | apply pw_below_drewN | apply below_drew1 | refine below_set ?_ GE226.out | refine below_set ?_ GE228.out) | exact HB.out)) hb); clear BK226; clear BK228; clear HB; have BK226 := n0_; have BK228 := n1_; have HB := n2_; clear n0_ n1_ n2_; (try clear hb); (try clear hb2); (try clear hk); (try clear hi); obtain ⟨hcz35_0, hcz35_1, hcz35_2, hcz35_3, hcz35_4, hcz35_5⟩ := cz6_ BK226.out; obtain ⟨hfz35_0, hfz35_1, hfz35_2, hfz35_3, hfz35_4, hfz35_5⟩ := cf6_ BK226.out; have hxz := arr4_cell hz0 BK226.out) | ((with_reducible refine gate_callee (f := 58) rfl ?_); refine goesL_ (some 51) rfl rfl Try.func58 (by kernel_rfl) rfl #[.int .i64 z0] rfl (by (try simp only [List.map_toArray, List.map_cons, List.map_nil]); first | done | rfl | (simp only [List.length_drop, List.length_take]; rfl)) ?_; (with_reducible refine (semblanceref01_Near.calls z0 t237 _ A30.out).mono ?_); rintro e w' ⟨rfl, ⟨nd, rfl⟩⟩; refine ⟨_, rfl, ?_⟩))
      go_ret
      exact ⟨by first | rfl | (simp [errW_none, errW_some] <;> rfl) | (simp [*, errW_none, errW_some] <;> rfl), by repeat (first | (with_reducible first | exact HB.out | apply below_alloc | apply pw_below_drewN | apply below_drew1 | refine below_set ?_ GE226.out | refine below_set ?_ GE228.out) | exact HB.out)⟩
     rw [if_neg c28] at H
     have c28b0 : (((rd_T47 l0 a1).f0) == 2) = false := beq_eq_false_iff_ne.mpr c28
     have c28b1 : (((rd_T47 l0 a1).f0) != 2) = true := bne_iff_ne.mpr c28
     by_cases c36 : ((rd_T47 l0 a1).f0) = 3
     ·rw [if_pos c36] at H
      have c36b0 : (((rd_T47 l0 a1).f0) == 3) = true := beq_iff_eq.mpr c36
      have c36b1 : (((rd_T47 l0 a1).f0) != 3) = false := bne_eq_false_iff_eq.mpr c36
      clear c36
      obtain rfl := Option.some.inj H
      have hnb37 := NB228_226.out
      have hnc37 := NB226_228.out
      obtain ⟨hcz38_0, hcz38_1, hcz38_2⟩ := cz3_ BK228.out
      obtain ⟨hfz38_0, hfz38_1, hfz38_2⟩ := cf3_ BK228.out
      go_wp2
      go_ret
      exact ⟨by first | rfl | (simp [errW_none, errW_some] <;> rfl) | (simp [*, errW_none, errW_some] <;> rfl), by repeat (first | (with_reducible first | exact HB.out | apply below_alloc | apply pw_below_drewN | apply below_drew1 | refine below_set ?_ GE226.out | refine below_set ?_ GE228.out) | exact HB.out)⟩
     rw [if_neg c36] at H
     have c36b0 : (((rd_T47 l0 a1).f0) == 3) = false := beq_eq_false_iff_ne.mpr c36
     have c36b1 : (((rd_T47 l0 a1).f0) != 3) = true := bne_iff_ne.mpr c36
     by_cases c39 : ((rd_T47 l0 a1).f0) = 4
     ·rw [if_pos c39] at H
      have c39b0 : (((rd_T47 l0 a1).f0) == 4) = true := beq_iff_eq.mpr c39
      have c39b1 : (((rd_T47 l0 a1).f0) != 4) = false := bne_eq_false_iff_eq.mpr c39
      clear c39
      replace H := Option.bind_eq_some_iff.mp H
      obtain ⟨t238, A400, H⟩ := H
      replace H : (some t238) = some r := H
      have A40 := Aside0.mk A400
      clear A400
      obtain rfl := Option.some.inj H
      have hnb41 := NB228_226.out
      have hnc41 := NB226_228.out
      obtain ⟨hcz42_0, hcz42_1, hcz42_2⟩ := cz3_ BK228.out
      obtain ⟨hfz42_0, hfz42_1, hfz42_2⟩ := cf3_ BK228.out
      go_wp2_with (first | ((with_reducible refine gate_callee (f := 58) rfl ?_); refine goesL_ (some 61) rfl rfl Try.func58 (by kernel_rfl) rfl #[.int .i64 (wrap64 (x9_6 + x10_18))] rfl (by (try simp only [List.map_toArray, List.map_cons, List.map_nil]); first | done | rfl | (simp only [List.length_drop, List.length_take]; rfl)) ?_; (with_reducible refine (semblanceref01_Near.calls (wrap64 (x9_6 + x10_18)) t238 _ A40.out).mono ?_); rintro e w' ⟨rfl, ⟨nd, rfl⟩⟩; refine ⟨_, rfl, ?_⟩))
      go_ret
      exact ⟨by first | rfl | (simp [errW_none, errW_some] <;> rfl) | (simp [*, errW_none, errW_some] <;> rfl), by repeat (first | (with_reducible first | exact HB.out | apply below_alloc | apply pw_below_drewN | apply below_drew1 | refine below_set ?_ GE226.out | refine below_set ?_ GE228.out) | exact HB.out)⟩
     rw [if_neg c39] at H
     have c39b0 : (((rd_T47 l0 a1).f0) == 4) = false := beq_eq_false_iff_ne.mpr c39
     have c39b1 : (((rd_T47 l0 a1).f0) != 4) = true := bne_iff_ne.mpr c39
     by_cases c43 : ((rd_T47 l0 a1).f0) = 5
     ·rw [if_pos c43] at H
      have c43b0 : (((rd_T47 l0 a1).f0) == 5) = true := beq_iff_eq.mpr c43
      have c43b1 : (((rd_T47 l0 a1).f0) != 5) = false := bne_eq_false_iff_eq.mpr c43
      clear c43
      replace H := Option.bind_eq_some_iff.mp H
      obtain ⟨t239, A440, H⟩ := H
      replace H : (some t239) = some r := H
      have A44 := Aside0.mk A440
      clear A440
      obtain rfl := Option.some.inj H
      have hnb45 := NB228_226.out
      have hnc45 := NB226_228.out
      obtain ⟨hcz46_0, hcz46_1, hcz46_2⟩ := cz3_ BK228.out
      obtain ⟨hfz46_0, hfz46_1, hfz46_2⟩ := cf3_ BK228.out
      go_wp2_with (first | ((with_reducible refine gate_callee (f := 58) rfl ?_); refine goesL_ (some 67) rfl rfl Try.func58 (by kernel_rfl) rfl #[.int .i64 (wrap64 (x9_6 - x10_18))] rfl (by (try simp only [List.map_toArray, List.map_cons, List.map_nil]); first | done | rfl | (simp only [List.length_drop, List.length_take]; rfl)) ?_; (with_reducible refine (semblanceref01_Near.calls (wrap64 (x9_6 - x10_18)) t239 _ A44.out).mono ?_); rintro e w' ⟨rfl, ⟨nd, rfl⟩⟩; refine ⟨_, rfl, ?_⟩))
      go_ret
      exact ⟨by first | rfl | (simp [errW_none, errW_some] <;> rfl) | (simp [*, errW_none, errW_some] <;> rfl), by repeat (first | (with_reducible first | exact HB.out | apply below_alloc | apply pw_below_drewN | apply below_drew1 | refine below_set ?_ GE226.out | refine below_set ?_ GE228.out) | exact HB.out)⟩
     rw [if_neg c43] at H
     have c43b0 : (((rd_T47 l0 a1).f0) == 5) = false := beq_eq_false_iff_ne.mpr c43
     have c43b1 : (((rd_T47 l0 a1).f0) != 5) = true := bne_iff_ne.mpr c43
     by_cases c47 : ((rd_T47 l0 a1).f0) = 6
     ·rw [if_pos c47] at H
      have c47b0 : (((rd_T47 l0 a1).f0) == 6) = true := beq_iff_eq.mpr c47
      have c47b1 : (((rd_T47 l0 a1).f0) != 6) = false := bne_eq_false_iff_eq.mpr c47
      clear c47
      replace H := Option.bind_eq_some_iff.mp H
      obtain ⟨t240, A480, H⟩ := H
      replace H : (some t240) = some r := H
      have A48 := Aside0.mk A480
      clear A480
      obtain rfl := Option.some.inj H
      have hnb49 := NB228_226.out
      have hnc49 := NB226_228.out
      obtain ⟨hcz50_0, hcz50_1, hcz50_2⟩ := cz3_ BK228.out
      obtain ⟨hfz50_0, hfz50_1, hfz50_2⟩ := cf3_ BK228.out
      go_wp2_with (first | ((with_reducible refine gate_callee (f := 58) rfl ?_); refine goesL_ (some 73) rfl rfl Try.func58 (by kernel_rfl) rfl #[.int .i64 (wrap64 (x9_6 * x10_18))] rfl (by (try simp only [List.map_toArray, List.map_cons, List.map_nil]); first | done | rfl | (simp only [List.length_drop, List.length_take]; rfl)) ?_; (with_reducible refine (semblanceref01_Near.calls (wrap64 (x9_6 * x10_18)) t240 _ A48.out).mono ?_); rintro e w' ⟨rfl, ⟨nd, rfl⟩⟩; refine ⟨_, rfl, ?_⟩))
      go_ret
      exact ⟨by first | rfl | (simp [errW_none, errW_some] <;> rfl) | (simp [*, errW_none, errW_some] <;> rfl), by repeat (first | (with_reducible first | exact HB.out | apply below_alloc | apply pw_below_drewN | apply below_drew1 | refine below_set ?_ GE226.out | refine below_set ?_ GE228.out) | exact HB.out)⟩
     rw [if_neg c47] at H
     have c47b0 : (((rd_T47 l0 a1).f0) == 6) = false := beq_eq_false_iff_ne.mpr c47
     have c47b1 : (((rd_T47 l0 a1).f0) != 6) = true := bne_iff_ne.mpr c47
     by_cases c51 : ((rd_T47 l0 a1).f0) = 7
     ·rw [if_pos c51] at H
      have c51b0 : (((rd_T47 l0 a1).f0) == 7) = true := beq_iff_eq.mpr c51
      have c51b1 : (((rd_T47 l0 a1).f0) != 7) = false := bne_eq_false_iff_eq.mpr c51
      clear c51
      by_cases c52 : x9_6 < x10_18
      ·rw [if_pos c52] at H
       have c52b0 : decide (x9_6 < x10_18) = true := decide_eq_true c52
       clear c52
       obtain rfl := Option.some.inj H
       have hnb53 := NB228_226.out
       have hnc53 := NB226_228.out
       obtain ⟨hcz54_0, hcz54_1, hcz54_2⟩ := cz3_ BK228.out
       obtain ⟨hfz54_0, hfz54_1, hfz54_2⟩ := cf3_ BK228.out
       go_wp2
       go_ret
       exact ⟨by first | rfl | (simp [errW_none, errW_some] <;> rfl) | (simp [*, errW_none, errW_some] <;> rfl), by repeat (first | (with_reducible first | exact HB.out | apply below_alloc | apply pw_below_drewN | apply below_drew1 | refine below_set ?_ GE226.out | refine below_set ?_ GE228.out) | exact HB.out)⟩
      rw [if_neg c52] at H
      have c52b0 : decide (x9_6 < x10_18) = false := decide_eq_false c52
      clear c52
      obtain rfl := Option.some.inj H
      have hnb55 := NB228_226.out
      have hnc55 := NB226_228.out
      obtain ⟨hcz56_0, hcz56_1, hcz56_2⟩ := cz3_ BK228.out
      obtain ⟨hfz56_0, hfz56_1, hfz56_2⟩ := cf3_ BK228.out
      go_wp2
      go_ret
      exact ⟨by first | rfl | (simp [errW_none, errW_some] <;> rfl) | (simp [*, errW_none, errW_some] <;> rfl), by repeat (first | (with_reducible first | exact HB.out | apply below_alloc | apply pw_below_drewN | apply below_drew1 | refine below_set ?_ GE226.out | refine below_set ?_ GE228.out) | exact HB.out)⟩
     rw [if_neg c51] at H
     have c51b0 : (((rd_T47 l0 a1).f0) == 7) = false := beq_eq_false_iff_ne.mpr c51
     have c51b1 : (((rd_T47 l0 a1).f0) != 7) = true := bne_iff_ne.mpr c51
     by_cases c57 : ((rd_T47 l0 a1).f0) = 8
     ·rw [if_pos c57] at H
      have c57b0 : (((rd_T47 l0 a1).f0) == 8) = true := beq_iff_eq.mpr c57
      have c57b1 : (((rd_T47 l0 a1).f0) != 8) = false := bne_eq_false_iff_eq.mpr c57
      clear c57
      by_cases c58 : x9_6 > x10_18
      ·rw [if_pos c58] at H
       have c58b0 : decide (x10_18 < x9_6) = true := decide_eq_true c58
       clear c58
       obtain rfl := Option.some.inj H
       have hnb59 := NB228_226.out
       have hnc59 := NB226_228.out
       obtain ⟨hcz60_0, hcz60_1, hcz60_2⟩ := cz3_ BK228.out
       obtain ⟨hfz60_0, hfz60_1, hfz60_2⟩ := cf3_ BK228.out
       go_wp2
       go_ret
       exact ⟨by first | rfl | (simp [errW_none, errW_some] <;> rfl) | (simp [*, errW_none, errW_some] <;> rfl), by repeat (first | (with_reducible first | exact HB.out | apply below_alloc | apply pw_below_drewN | apply below_drew1 | refine below_set ?_ GE226.out | refine below_set ?_ GE228.out) | exact HB.out)⟩
      rw [if_neg c58] at H
      have c58b0 : decide (x10_18 < x9_6) = false := decide_eq_false c58
      clear c58
      obtain rfl := Option.some.inj H
      have hnb61 := NB228_226.out
      have hnc61 := NB226_228.out
      obtain ⟨hcz62_0, hcz62_1, hcz62_2⟩ := cz3_ BK228.out
      obtain ⟨hfz62_0, hfz62_1, hfz62_2⟩ := cf3_ BK228.out
      go_wp2
      go_ret
      exact ⟨by first | rfl | (simp [errW_none, errW_some] <;> rfl) | (simp [*, errW_none, errW_some] <;> rfl), by repeat (first | (with_reducible first | exact HB.out | apply below_alloc | apply pw_below_drewN | apply below_drew1 | refine below_set ?_ GE226.out | refine below_set ?_ GE228.out) | exact HB.out)⟩
     rw [if_neg c57] at H
     have c57b0 : (((rd_T47 l0 a1).f0) == 8) = false := beq_eq_false_iff_ne.mpr c57
     have c57b1 : (((rd_T47 l0 a1).f0) != 8) = true := bne_iff_ne.mpr c57
     by_cases c63 : ((rd_T47 l0 a1).f0) = 9
     ·rw [if_pos c63] at H
      have c63b0 : (((rd_T47 l0 a1).f0) == 9) = true := beq_iff_eq.mpr c63
      have c63b1 : (((rd_T47 l0 a1).f0) != 9) = false := bne_eq_false_iff_eq.mpr c63
      clear c63
      obtain rfl := Option.some.inj H
      have hnb64 := NB228_226.out
      have hnc64 := NB226_228.out
      obtain ⟨hcz65_0, hcz65_1, hcz65_2⟩ := cz3_ BK228.out
      obtain ⟨hfz65_0, hfz65_1, hfz65_2⟩ := cf3_ BK228.out
      go_wp2
      go_ret
      exact ⟨by first | rfl | (simp [errW_none, errW_some] <;> rfl) | (simp [*, errW_none, errW_some] <;> rfl), by repeat (first | (with_reducible first | exact HB.out | apply below_alloc | apply pw_below_drewN | apply below_drew1 | refine below_set ?_ GE226.out | refine below_set ?_ GE228.out) | exact HB.out)⟩
     rw [if_neg c63] at H
     have c63b0 : (((rd_T47 l0 a1).f0) == 9) = false := beq_eq_false_iff_ne.mpr c63
     have c63b1 : (((rd_T47 l0 a1).f0) != 9) = true := bne_iff_ne.mpr c63
     by_cases c66 : ((rd_T47 l0 a1).f0) = 10
     ·rw [if_pos c66] at H
      have c66b0 : (((rd_T47 l0 a1).f0) == 10) = true := beq_iff_eq.mpr c66
      have c66b1 : (((rd_T47 l0 a1).f0) != 10) = false := bne_eq_false_iff_eq.mpr c66
      clear c66
      obtain rfl := Option.some.inj H
      have hnb67 := NB228_226.out
      have hnc67 := NB226_228.out
      obtain ⟨hcz68_0, hcz68_1, hcz68_2⟩ := cz3_ BK228.out
      obtain ⟨hfz68_0, hfz68_1, hfz68_2⟩ := cf3_ BK228.out
      go_wp2
      go_ret
      exact ⟨by first | rfl | (simp [errW_none, errW_some] <;> rfl) | (simp [*, errW_none, errW_some] <;> rfl), by repeat (first | (with_reducible first | exact HB.out | apply below_alloc | apply pw_below_drewN | apply below_drew1 | refine below_set ?_ GE226.out | refine below_set ?_ GE228.out) | exact HB.out)⟩
     rw [if_neg c66] at H
     have c66b0 : (((rd_T47 l0 a1).f0) == 10) = false := beq_eq_false_iff_ne.mpr c66
     have c66b1 : (((rd_T47 l0 a1).f0) != 10) = true := bne_iff_ne.mpr c66
     by_cases c69 : ((rd_T47 l0 a1).f0) = 11
     ·rw [if_pos c69] at H
      have c69b0 : (((rd_T47 l0 a1).f0) == 11) = true := beq_iff_eq.mpr c69
      have c69b1 : (((rd_T47 l0 a1).f0) != 11) = false := bne_eq_false_iff_eq.mpr c69
      clear c69
      replace H := Option.bind_eq_some_iff.mp H
      obtain ⟨t241, A700, H⟩ := H
      replace H : ((semblanceref07_is.f (decide (t241 ≥ 0))).bind fun t242 => (some t242)) = some r := H
      have A70 := Aside0.mk A700
      clear A700
      replace H := Option.bind_eq_some_iff.mp H
      obtain ⟨t242, A710, H⟩ := H
      replace H : (some t242) = some r := H
      have A71 := Aside0.mk A710
      clear A710
      obtain rfl := Option.some.inj H
      have hnb72 := NB228_226.out
      have hnc72 := NB226_228.out
      obtain ⟨hcz73_0, hcz73_1, hcz73_2⟩ := cz3_ BK228.out
      obtain ⟨hfz73_0, hfz73_1, hfz73_2⟩ := cf3_ BK228.out
      obtain ⟨hcz74_0, hcz74_1, hcz74_2, hcz74_3, hcz74_4, hcz74_5⟩ := cz6_ BK226.out
      obtain ⟨hfz74_0, hfz74_1, hfz74_2, hfz74_3, hfz74_4, hfz74_5⟩ := cf6_ BK226.out
      go_wp2_with (first | ((with_reducible refine gate_callee (f := 60) rfl ?_); refine goesL_ (some 98) rfl rfl Try.func60 (by kernel_rfl) rfl #[.slice A2_5 l2_5.length c2_5, .string ((rd_T47 l0 a1).f2)] rfl (by (try simp only [List.map_toArray, List.map_cons, List.map_nil]); first | done | rfl | (simp only [List.length_drop, List.length_take]; rfl)) ?_; (with_reducible refine (semblanceref02_Place.calls kj18 _ _ l2_5 ((rd_T47 l0 a1).f2) t241 _ ?side1 ?side2 A70.out).mono ?_); (case side1 => repeat (first | exact (Kd.C_below HR2_5.out HB.out) | (with_reducible refine Kd.C_alloc ?_ _) | (with_reducible refine Kd.C_drewN ?_ _) | (with_reducible refine Kd.C_drew ?_))); (case side2 => exact HC2_5.out); rintro e w' ⟨rfl, ⟨nd, rfl⟩⟩; refine ⟨_, rfl, ?_⟩) | ((with_reducible refine gate_callee (f := 59) rfl ?_); refine goesL_ (some 100) rfl rfl Try.func59 (by kernel_rfl) rfl #[.bool (decide (t241 ≥ 0))] rfl (by (try simp only [List.map_toArray, List.map_cons, List.map_nil]); first | done | rfl | (simp only [List.length_drop, List.length_take]; rfl)) ?_; (with_reducible refine (semblanceref07_is.calls (decide (t241 ≥ 0)) t242 _ A71.out).mono ?_); rintro e w' ⟨rfl, ⟨nd, rfl⟩⟩; refine ⟨_, rfl, ?_⟩))
      go_ret
      exact ⟨by first | rfl | (simp [errW_none, errW_some] <;> rfl) | (simp [*, errW_none, errW_some] <;> rfl), by repeat (first | (with_reducible first | exact HB.out | apply below_alloc | apply pw_below_drewN | apply below_drew1 | refine below_set ?_ GE226.out | refine below_set ?_ GE228.out) | exact HB.out)⟩
     rw [if_neg c69] at H
     have c69b0 : (((rd_T47 l0 a1).f0) == 11) = false := beq_eq_false_iff_ne.mpr c69
     have c69b1 : (((rd_T47 l0 a1).f0) != 11) = true := bne_iff_ne.mpr c69
     by_cases c75 : ((rd_T47 l0 a1).f0) = 12
     ·rw [if_pos c75] at H
      have c75b0 : (((rd_T47 l0 a1).f0) == 12) = true := beq_iff_eq.mpr c75
      have c75b1 : (((rd_T47 l0 a1).f0) != 12) = false := bne_eq_false_iff_eq.mpr c75
      clear c75
      replace H := Option.bind_eq_some_iff.mp H
      obtain ⟨t243, A760, H⟩ := H
      replace H : (some t243) = some r := H
      have A76 := Aside0.mk A760
      clear A760
      obtain rfl := Option.some.inj H
      have hnb77 := NB228_226.out
      have hnc77 := NB226_228.out
      obtain ⟨hcz78_0, hcz78_1, hcz78_2⟩ := cz3_ BK228.out
      obtain ⟨hfz78_0, hfz78_1, hfz78_2⟩ := cf3_ BK228.out
      go_wp2_with (first | ((with_reducible refine gate_callee (f := 59) rfl ?_); refine goesL_ (some 105) rfl rfl Try.func59 (by kernel_rfl) rfl #[.bool (x9_6 == 0)] rfl (by (try simp only [List.map_toArray, List.map_cons, List.map_nil]); first | done | rfl | (simp only [List.length_drop, List.length_take]; rfl)) ?_; (with_reducible refine (semblanceref07_is.calls (x9_6 == 0) t243 _ A76.out).mono ?_); rintro e w' ⟨rfl, ⟨nd, rfl⟩⟩; refine ⟨_, rfl, ?_⟩))
      go_ret
      exact ⟨by first | rfl | (simp [errW_none, errW_some] <;> rfl) | (simp [*, errW_none, errW_some] <;> rfl), by repeat (first | (with_reducible first | exact HB.out | apply below_alloc | apply pw_below_drewN | apply below_drew1 | refine below_set ?_ GE226.out | refine below_set ?_ GE228.out) | exact HB.out)⟩
     rw [if_neg c75] at H
     have c75b0 : (((rd_T47 l0 a1).f0) == 12) = false := beq_eq_false_iff_ne.mpr c75
     have c75b1 : (((rd_T47 l0 a1).f0) != 12) = true := bne_iff_ne.mpr c75
     by_cases c79 : ((rd_T47 l0 a1).f0) = 13
     ·rw [if_pos c79] at H
      have c79b0 : (((rd_T47 l0 a1).f0) == 13) = true := beq_iff_eq.mpr c79
      have c79b1 : (((rd_T47 l0 a1).f0) != 13) = false := bne_eq_false_iff_eq.mpr c79
      clear c79
      replace H := Option.bind_eq_some_iff.mp H
      obtain ⟨t244, A800, H⟩ := H
      replace H : (some t244) = some r := H
      have A80 := Aside0.mk A800
      clear A800
      obtain rfl := Option.some.inj H
      have hnb81 := NB228_226.out
      have hnc81 := NB226_228.out
      obtain ⟨hcz82_0, hcz82_1, hcz82_2⟩ := cz3_ BK228.out
      obtain ⟨hfz82_0, hfz82_1, hfz82_2⟩ := cf3_ BK228.out
      go_wp2_with (first | ((with_reducible refine gate_callee (f := 59) rfl ?_); refine goesL_ (some 111) rfl rfl Try.func59 (by kernel_rfl) rfl #[.bool (x9_6 == x10_18)] rfl (by (try simp only [List.map_toArray, List.map_cons, List.map_nil]); first | done | rfl | (simp only [List.length_drop, List.length_take]; rfl)) ?_; (with_reducible refine (semblanceref07_is.calls (x9_6 == x10_18) t244 _ A80.out).mono ?_); rintro e w' ⟨rfl, ⟨nd, rfl⟩⟩; refine ⟨_, rfl, ?_⟩))
      go_ret
      exact ⟨by first | rfl | (simp [errW_none, errW_some] <;> rfl) | (simp [*, errW_none, errW_some] <;> rfl), by repeat (first | (with_reducible first | exact HB.out | apply below_alloc | apply pw_below_drewN | apply below_drew1 | refine below_set ?_ GE226.out | refine below_set ?_ GE228.out) | exact HB.out)⟩
     rw [if_neg c79] at H
     have c79b0 : (((rd_T47 l0 a1).f0) == 13) = false := beq_eq_false_iff_ne.mpr c79
     have c79b1 : (((rd_T47 l0 a1).f0) != 13) = true := bne_iff_ne.mpr c79
     by_cases c83 : ((rd_T47 l0 a1).f0) = 14
     ·rw [if_pos c83] at H
      have c83b0 : (((rd_T47 l0 a1).f0) == 14) = true := beq_iff_eq.mpr c83
      have c83b1 : (((rd_T47 l0 a1).f0) != 14) = false := bne_eq_false_iff_eq.mpr c83
      clear c83
      replace H := Option.bind_eq_some_iff.mp H
      obtain ⟨t245, A840, H⟩ := H
      replace H : (some t245) = some r := H
      have A84 := Aside0.mk A840
      clear A840
      obtain rfl := Option.some.inj H
      have hnb85 := NB228_226.out
      have hnc85 := NB226_228.out
      obtain ⟨hcz86_0, hcz86_1, hcz86_2⟩ := cz3_ BK228.out
      obtain ⟨hfz86_0, hfz86_1, hfz86_2⟩ := cf3_ BK228.out
      go_wp2_with (first | ((with_reducible refine gate_callee (f := 59) rfl ?_); refine goesL_ (some 117) rfl rfl Try.func59 (by kernel_rfl) rfl #[.bool (x9_6 != x10_18)] rfl (by (try simp only [List.map_toArray, List.map_cons, List.map_nil]); first | done | rfl | (simp only [List.length_drop, List.length_take]; rfl)) ?_; (with_reducible refine (semblanceref07_is.calls (x9_6 != x10_18) t245 _ A84.out).mono ?_); rintro e w' ⟨rfl, ⟨nd, rfl⟩⟩; refine ⟨_, rfl, ?_⟩))
      go_ret
      exact ⟨by first | rfl | (simp [errW_none, errW_some] <;> rfl) | (simp [*, errW_none, errW_some] <;> rfl), by repeat (first | (with_reducible first | exact HB.out | apply below_alloc | apply pw_below_drewN | apply below_drew1 | refine below_set ?_ GE226.out | refine below_set ?_ GE228.out) | exact HB.out)⟩
     rw [if_neg c83] at H
     have c83b0 : (((rd_T47 l0 a1).f0) == 14) = false := beq_eq_false_iff_ne.mpr c83
     have c83b1 : (((rd_T47 l0 a1).f0) != 14) = true := bne_iff_ne.mpr c83
     by_cases c87 : ((rd_T47 l0 a1).f0) = 15
     ·rw [if_pos c87] at H
      have c87b0 : (((rd_T47 l0 a1).f0) == 15) = true := beq_iff_eq.mpr c87
      have c87b1 : (((rd_T47 l0 a1).f0) != 15) = false := bne_eq_false_iff_eq.mpr c87
      clear c87
      replace H := Option.bind_eq_some_iff.mp H
      obtain ⟨t246, A880, H⟩ := H
      replace H : (some t246) = some r := H
      have A88 := Aside0.mk A880
      clear A880
      obtain rfl := Option.some.inj H
      have hnb89 := NB228_226.out
      have hnc89 := NB226_228.out
      obtain ⟨hcz90_0, hcz90_1, hcz90_2⟩ := cz3_ BK228.out
      obtain ⟨hfz90_0, hfz90_1, hfz90_2⟩ := cf3_ BK228.out
      go_wp2_with (first | ((with_reducible refine gate_callee (f := 59) rfl ?_); refine goesL_ (some 123) rfl rfl Try.func59 (by kernel_rfl) rfl #[.bool (decide (x9_6 < x10_18))] rfl (by (try simp only [List.map_toArray, List.map_cons, List.map_nil]); first | done | rfl | (simp only [List.length_drop, List.length_take]; rfl)) ?_; (with_reducible refine (semblanceref07_is.calls (decide (x9_6 < x10_18)) t246 _ A88.out).mono ?_); rintro e w' ⟨rfl, ⟨nd, rfl⟩⟩; refine ⟨_, rfl, ?_⟩))
      go_ret
      exact ⟨by first | rfl | (simp [errW_none, errW_some] <;> rfl) | (simp [*, errW_none, errW_some] <;> rfl), by repeat (first | (with_reducible first | exact HB.out | apply below_alloc | apply pw_below_drewN | apply below_drew1 | refine below_set ?_ GE226.out | refine below_set ?_ GE228.out) | exact HB.out)⟩
     rw [if_neg c87] at H
     have c87b0 : (((rd_T47 l0 a1).f0) == 15) = false := beq_eq_false_iff_ne.mpr c87
     have c87b1 : (((rd_T47 l0 a1).f0) != 15) = true := bne_iff_ne.mpr c87
     by_cases c91 : ((rd_T47 l0 a1).f0) = 16
     ·rw [if_pos c91] at H
      have c91b0 : (((rd_T47 l0 a1).f0) == 16) = true := beq_iff_eq.mpr c91
      have c91b1 : (((rd_T47 l0 a1).f0) != 16) = false := bne_eq_false_iff_eq.mpr c91
      clear c91
      replace H := Option.bind_eq_some_iff.mp H
      obtain ⟨t247, A920, H⟩ := H
      replace H : (some t247) = some r := H
      have A92 := Aside0.mk A920
      clear A920
      obtain rfl := Option.some.inj H
      have hnb93 := NB228_226.out
      have hnc93 := NB226_228.out
      obtain ⟨hcz94_0, hcz94_1, hcz94_2⟩ := cz3_ BK228.out
      obtain ⟨hfz94_0, hfz94_1, hfz94_2⟩ := cf3_ BK228.out
      go_wp2_with (first | ((with_reducible refine gate_callee (f := 59) rfl ?_); refine goesL_ (some 129) rfl rfl Try.func59 (by kernel_rfl) rfl #[.bool (decide (x9_6 ≤ x10_18))] rfl (by (try simp only [List.map_toArray, List.map_cons, List.map_nil]); first | done | rfl | (simp only [List.length_drop, List.length_take]; rfl)) ?_; (with_reducible refine (semblanceref07_is.calls (decide (x9_6 ≤ x10_18)) t247 _ A92.out).mono ?_); rintro e w' ⟨rfl, ⟨nd, rfl⟩⟩; refine ⟨_, rfl, ?_⟩))
      go_ret
      exact ⟨by first | rfl | (simp [errW_none, errW_some] <;> rfl) | (simp [*, errW_none, errW_some] <;> rfl), by repeat (first | (with_reducible first | exact HB.out | apply below_alloc | apply pw_below_drewN | apply below_drew1 | refine below_set ?_ GE226.out | refine below_set ?_ GE228.out) | exact HB.out)⟩
     rw [if_neg c91] at H
     have c91b0 : (((rd_T47 l0 a1).f0) == 16) = false := beq_eq_false_iff_ne.mpr c91
     have c91b1 : (((rd_T47 l0 a1).f0) != 16) = true := bne_iff_ne.mpr c91
     by_cases c95 : ((rd_T47 l0 a1).f0) = 17
     ·rw [if_pos c95] at H
      have c95b0 : (((rd_T47 l0 a1).f0) == 17) = true := beq_iff_eq.mpr c95
      have c95b1 : (((rd_T47 l0 a1).f0) != 17) = false := bne_eq_false_iff_eq.mpr c95
      clear c95
      replace H := Option.bind_eq_some_iff.mp H
      obtain ⟨t248, A960, H⟩ := H
      replace H : (some t248) = some r := H
      have A96 := Aside0.mk A960
      clear A960
      obtain rfl := Option.some.inj H
      have hnb97 := NB228_226.out
      have hnc97 := NB226_228.out
      obtain ⟨hcz98_0, hcz98_1, hcz98_2⟩ := cz3_ BK228.out
      obtain ⟨hfz98_0, hfz98_1, hfz98_2⟩ := cf3_ BK228.out
      go_wp2_with (first | ((with_reducible refine gate_callee (f := 59) rfl ?_); refine goesL_ (some 135) rfl rfl Try.func59 (by kernel_rfl) rfl #[.bool (decide (x9_6 > x10_18))] rfl (by (try simp only [List.map_toArray, List.map_cons, List.map_nil]); first | done | rfl | (simp only [List.length_drop, List.length_take]; rfl)) ?_; (with_reducible refine (semblanceref07_is.calls (decide (x9_6 > x10_18)) t248 _ A96.out).mono ?_); rintro e w' ⟨rfl, ⟨nd, rfl⟩⟩; refine ⟨_, rfl, ?_⟩))
      go_ret
      exact ⟨by first | rfl | (simp [errW_none, errW_some] <;> rfl) | (simp [*, errW_none, errW_some] <;> rfl), by repeat (first | (with_reducible first | exact HB.out | apply below_alloc | apply pw_below_drewN | apply below_drew1 | refine below_set ?_ GE226.out | refine below_set ?_ GE228.out) | exact HB.out)⟩
     rw [if_neg c95] at H
     have c95b0 : (((rd_T47 l0 a1).f0) == 17) = false := beq_eq_false_iff_ne.mpr c95
     have c95b1 : (((rd_T47 l0 a1).f0) != 17) = true := bne_iff_ne.mpr c95
     by_cases c99 : ((rd_T47 l0 a1).f0) = 18
     ·rw [if_pos c99] at H
      have c99b0 : (((rd_T47 l0 a1).f0) == 18) = true := beq_iff_eq.mpr c99
      have c99b1 : (((rd_T47 l0 a1).f0) != 18) = false := bne_eq_false_iff_eq.mpr c99
      clear c99
      replace H := Option.bind_eq_some_iff.mp H
      obtain ⟨t249, A1000, H⟩ := H
      replace H : (some t249) = some r := H
      have A100 := Aside0.mk A1000
      clear A1000
      obtain rfl := Option.some.inj H
      have hnb101 := NB228_226.out
      have hnc101 := NB226_228.out
      obtain ⟨hcz102_0, hcz102_1, hcz102_2⟩ := cz3_ BK228.out
      obtain ⟨hfz102_0, hfz102_1, hfz102_2⟩ := cf3_ BK228.out
      go_wp2_with (first | ((with_reducible refine gate_callee (f := 59) rfl ?_); refine goesL_ (some 141) rfl rfl Try.func59 (by kernel_rfl) rfl #[.bool (decide (x9_6 ≥ x10_18))] rfl (by (try simp only [List.map_toArray, List.map_cons, List.map_nil]); first | done | rfl | (simp only [List.length_drop, List.length_take]; rfl)) ?_; (with_reducible refine (semblanceref07_is.calls (decide (x9_6 ≥ x10_18)) t249 _ A100.out).mono ?_); rintro e w' ⟨rfl, ⟨nd, rfl⟩⟩; refine ⟨_, rfl, ?_⟩))
      go_ret
      exact ⟨by first | rfl | (simp [errW_none, errW_some] <;> rfl) | (simp [*, errW_none, errW_some] <;> rfl), by repeat (first | (with_reducible first | exact HB.out | apply below_alloc | apply pw_below_drewN | apply below_drew1 | refine below_set ?_ GE226.out | refine below_set ?_ GE228.out) | exact HB.out)⟩
     rw [if_neg c99] at H
     have c99b0 : (((rd_T47 l0 a1).f0) == 18) = false := beq_eq_false_iff_ne.mpr c99
     have c99b1 : (((rd_T47 l0 a1).f0) != 18) = true := bne_iff_ne.mpr c99
     by_cases c103 : ((rd_T47 l0 a1).f0) = 19
     rotate_left
     ·rw [if_neg c103] at H
      have c103b0 : (((rd_T47 l0 a1).f0) == 19) = false := beq_eq_false_iff_ne.mpr c103
      have c103b1 : (((rd_T47 l0 a1).f0) != 19) = true := bne_iff_ne.mpr c103
      by_cases c111 : x9_6 = 1
      rotate_left
      ·rw [if_neg c111] at H
       have c111b0 : (x9_6 == 1) = false := beq_eq_false_iff_ne.mpr c111
       have c111b1 : (x9_6 != 1) = true := bne_iff_ne.mpr c111
       replace H := Option.bind_eq_some_iff.mp H
       obtain ⟨t253, A1150, H⟩ := H
       replace H : (some t253) = some r := H
       have A115 := Aside0.mk A1150
       clear A1150
       obtain rfl := Option.some.inj H
       have hnb116 := NB228_226.out
       have hnc116 := NB226_228.out
       obtain ⟨hcz117_0, hcz117_1, hcz117_2⟩ := cz3_ BK228.out
       obtain ⟨hfz117_0, hfz117_1, hfz117_2⟩ := cf3_ BK228.out
       go_wp2_with (first | ((with_reducible refine gate_callee (f := 59) rfl ?_); refine goesL_ (some 157) rfl rfl Try.func59 (by kernel_rfl) rfl #[.bool (x10_18 == 1)] rfl (by (try simp only [List.map_toArray, List.map_cons, List.map_nil]); first | done | rfl | (simp only [List.length_drop, List.length_take]; rfl)) ?_; (with_reducible refine (semblanceref07_is.calls (x10_18 == 1) t253 _ A115.out).mono ?_); rintro e w' ⟨rfl, ⟨nd, rfl⟩⟩; refine ⟨_, rfl, ?_⟩))
       go_ret
       exact ⟨by first | rfl | (simp [errW_none, errW_some] <;> rfl) | (simp [*, errW_none, errW_some] <;> rfl), by repeat (first | (with_reducible first | exact HB.out | apply below_alloc | apply pw_below_drewN | apply below_drew1 | refine below_set ?_ GE226.out | refine below_set ?_ GE228.out) | exact HB.out)⟩
      rw [if_pos c111] at H
      have c111b0 : (x9_6 == 1) = true := beq_iff_eq.mpr c111
      have c111b1 : (x9_6 != 1) = false := bne_eq_false_iff_eq.mpr c111
      clear c111
      replace H := Option.bind_eq_some_iff.mp H
      obtain ⟨t252, A1120, H⟩ := H
      replace H : (some t252) = some r := H
      have A112 := Aside0.mk A1120
      clear A1120
      obtain rfl := Option.some.inj H
      have hnb113 := NB228_226.out
      have hnc113 := NB226_228.out
      obtain ⟨hcz114_0, hcz114_1, hcz114_2⟩ := cz3_ BK228.out
      obtain ⟨hfz114_0, hfz114_1, hfz114_2⟩ := cf3_ BK228.out
      go_wp2_with (first | ((with_reducible refine gate_callee (f := 59) rfl ?_); refine goesL_ (some 157) rfl rfl Try.func59 (by kernel_rfl) rfl #[.bool true] rfl (by (try simp only [List.map_toArray, List.map_cons, List.map_nil]); first | done | rfl | (simp only [List.length_drop, List.length_take]; rfl)) ?_; (with_reducible refine (semblanceref07_is.calls true t252 _ A112.out).mono ?_); rintro e w' ⟨rfl, ⟨nd, rfl⟩⟩; refine ⟨_, rfl, ?_⟩))
      go_ret
      exact ⟨by first | rfl | (simp [errW_none, errW_some] <;> rfl) | (simp [*, errW_none, errW_some] <;> rfl), by repeat (first | (with_reducible first | exact HB.out | apply below_alloc | apply pw_below_drewN | apply below_drew1 | refine below_set ?_ GE226.out | refine below_set ?_ GE228.out) | exact HB.out)⟩
     rw [if_pos c103] at H
     have c103b0 : (((rd_T47 l0 a1).f0) == 19) = true := beq_iff_eq.mpr c103
     have c103b1 : (((rd_T47 l0 a1).f0) != 19) = false := bne_eq_false_iff_eq.mpr c103
     clear c103
     by_cases c104 : x9_6 = 1
     rotate_left
     ·rw [if_neg c104] at H
      have c104b0 : (x9_6 == 1) = false := beq_eq_false_iff_ne.mpr c104
      have c104b1 : (x9_6 != 1) = true := bne_iff_ne.mpr c104
      replace H := Option.bind_eq_some_iff.mp H
      obtain ⟨t251, A1080, H⟩ := H
      replace H : (some t251) = some r := H
      have A108 := Aside0.mk A1080
      clear A1080
      obtain rfl := Option.some.inj H
      have hnb109 := NB228_226.out
      have hnc109 := NB226_228.out
      obtain ⟨hcz110_0, hcz110_1, hcz110_2⟩ := cz3_ BK228.out
      obtain ⟨hfz110_0, hfz110_1, hfz110_2⟩ := cf3_ BK228.out
      go_wp2_with (first | ((with_reducible refine gate_callee (f := 59) rfl ?_); refine goesL_ (some 150) rfl rfl Try.func59 (by kernel_rfl) rfl #[.bool false] rfl (by (try simp only [List.map_toArray, List.map_cons, List.map_nil]); first | done | rfl | (simp only [List.length_drop, List.length_take]; rfl)) ?_; (with_reducible refine (semblanceref07_is.calls false t251 _ A108.out).mono ?_); rintro e w' ⟨rfl, ⟨nd, rfl⟩⟩; refine ⟨_, rfl, ?_⟩))
      go_ret
      exact ⟨by first | rfl | (simp [errW_none, errW_some] <;> rfl) | (simp [*, errW_none, errW_some] <;> rfl), by repeat (first | (with_reducible first | exact HB.out | apply below_alloc | apply pw_below_drewN | apply below_drew1 | refine below_set ?_ GE226.out | refine below_set ?_ GE228.out) | exact HB.out)⟩
     rw [if_pos c104] at H
     have c104b0 : (x9_6 == 1) = true := beq_iff_eq.mpr c104
     have c104b1 : (x9_6 != 1) = false := bne_eq_false_iff_eq.mpr c104
     clear c104
     replace H := Option.bind_eq_some_iff.mp H
     obtain ⟨t250, A1050, H⟩ := H
     replace H : (some t250) = some r := H
     have A105 := Aside0.mk A1050
     clear A1050
     obtain rfl := Option.some.inj H
     have hnb106 := NB228_226.out
     have hnc106 := NB226_228.out
     obtain ⟨hcz107_0, hcz107_1, hcz107_2⟩ := cz3_ BK228.out
     obtain ⟨hfz107_0, hfz107_1, hfz107_2⟩ := cf3_ BK228.out
     go_wp2_with (first | ((with_reducible refine gate_callee (f := 59) rfl ?_); refine goesL_ (some 150) rfl rfl Try.func59 (by kernel_rfl) rfl #[.bool (x10_18 == 1)] rfl (by (try simp only [List.map_toArray, List.map_cons, List.map_nil]); first | done | rfl | (simp only [List.length_drop, List.length_take]; rfl)) ?_; (with_reducible refine (semblanceref07_is.calls (x10_18 == 1) t250 _ A105.out).mono ?_); rintro e w' ⟨rfl, ⟨nd, rfl⟩⟩; refine ⟨_, rfl, ?_⟩))
     go_ret
     exact ⟨by first | rfl | (simp [errW_none, errW_some] <;> rfl) | (simp [*, errW_none, errW_some] <;> rfl), by repeat (first | (with_reducible first | exact HB.out | apply below_alloc | apply pw_below_drewN | apply below_drew1 | refine below_set ?_ GE226.out | refine below_set ?_ GE228.out) | exact HB.out)⟩
end Go.Proofs.Ytoeioigpkfgppaa.XV
