-- written by wip/xprint.py out of the translation
import Derived.Test.YtjlegibfeenglaaXEp0
import Derived.Test.YtjlegibfeenglaaXEp9
namespace Go.Proofs.Ytjlegibfeenglaa.XE
open Go.Proofs.Ytjlegibfeenglaa.XGrow Go.RowKit Go.Proofs.YtjlegibfeenglaaW.PrintWords Go.Proofs.YtjlegibfeenglaaW.PrintLast Go.Proofs.YtjlegibfeenglaaW.PrintMore
attribute [local go_sem] max2_int min2_int max_two min_two max_three min_three max_four min_four   -- for this text's walks alone
set_option linter.unusedVariables false
set_option linter.unusedSimpArgs false

/-! ### diff_Same: function 33 -/
def diff_Same.f (k : Nat) (a0_0 : ByteArray) (l0_1 : List ByteArray) (l0_2 : List (S95)) (l0_3 : List (S99)) (a1_0 : ByteArray) (l1_1 : List ByteArray) (l1_2 : List (S95)) (l1_3 : List (S99)) : Option (Bool) := (diff_Lines.f k a0_0 l0_1 l0_2 l0_3 a1_0 l1_1 l1_2 l1_3).bind fun t209 => (some ((t209.length : Int) == 0))
theorem diff_Same.mono : ∀ a0 a1 a2 a3 a4 a5 a6 a7 k, LeO (diff_Same.f k a0 a1 a2 a3 a4 a5 a6 a7) (diff_Same.f (k + 1) a0 a1 a2 a3 a4 a5 a6 a7) := by
  intro a0 a1 a2 a3 a4 a5 a6 a7 k
  unfold diff_Same.f
  repeat' first
      | (with_reducible exact diff_Lines.mono _ _ _ _ _ _ _ _ _)
      | (with_reducible exact LeO.refl _)
      | (with_reducible exact LeO.none _)
      | (with_reducible refine LeO.ite ?_ ?_)
      | (with_reducible refine LeO.bind ?_ (fun _ => ?_))
      | exact diff_Lines.mono _ _ _ _ _ _ _ _ _
      | exact LeO.none _
      | refine LeO.ite ?_ ?_
      | refine LeO.bind ?_ (fun _ => ?_)
theorem bz15_ {W W2 w : World} (_ : Below W.heap.size W W2) (h : Below w.heap.size w W) : Below w.heap.size w W := h
set_option maxHeartbeats 8000000 in
set_option maxRecDepth 100000 in
theorem diff_Same.calls (k : Nat) (a0_0 : ByteArray) (A0_1 : Option Addr) (c0_1 : Nat) (l0_1 : List ByteArray) (A0_2 : Option Addr) (c0_2 : Nat) (l0_2 : List (S95)) (A0_3 : Option Addr) (c0_3 : Nat) (l0_3 : List (S99)) (a1_0 : ByteArray) (A1_1 : Option Addr) (c1_1 : Nat) (l1_1 : List ByteArray) (A1_2 : Option Addr) (c1_2 : Nat) (l1_2 : List (S95)) (A1_3 : Option Addr) (c1_3 : Nat) (l1_3 : List (S99)) (r : Bool) (w : World) (hr0_1 : Kd.C Kd.string w A0_1 l0_1.length l0_1) (hc0_1 : l0_1.length ≤ c0_1) (hr0_2 : Kd.C k95 w A0_2 l0_2.length l0_2) (hc0_2 : l0_2.length ≤ c0_2) (hr0_3 : Kd.C k99 w A0_3 l0_3.length l0_3) (hc0_3 : l0_3.length ≤ c0_3) (hr1_1 : Kd.C Kd.string w A1_1 l1_1.length l1_1) (hc1_1 : l1_1.length ≤ c1_1) (hr1_2 : Kd.C k95 w A1_2 l1_2.length l1_2) (hc1_2 : l1_2.length ≤ c1_2) (hr1_3 : Kd.C k99 w A1_3 l1_3.length l1_3) (hc1_3 : l1_3.length ≤ c1_3) (h : diff_Same.f k a0_0 l0_1 l0_2 l0_3 a1_0 l1_1 l1_2 l1_3 = some r) :
  Calls Try.prog 33 #[.agg #[.string a0_0, .slice A0_1 l0_1.length c0_1, .slice A0_2 l0_2.length c0_2, .slice A0_3 l0_3.length c0_3], .agg #[.string a1_0, .slice A1_1 l1_1.length c1_1, .slice A1_2 l1_2.length c1_2, .slice A1_3 l1_3.length c1_3]] w fun e w' => e = .returned (.bool r) ∧ Below w.heap.size w w' := by
 have hu59 := Try.underlying59
 have HR0_1 := Aside0.mk hr0_1
 have HC0_1 := Aside0.mk hc0_1
 clear hr0_1 hc0_1
 have HR0_2 := Aside0.mk hr0_2
 have HC0_2 := Aside0.mk hc0_2
 clear hr0_2 hc0_2
 have HR0_3 := Aside0.mk hr0_3
 have HC0_3 := Aside0.mk hc0_3
 clear hr0_3 hc0_3
 have HR1_1 := Aside0.mk hr1_1
 have HC1_1 := Aside0.mk hc1_1
 clear hr1_1 hc1_1
 have HR1_2 := Aside0.mk hr1_2
 have HC1_2 := Aside0.mk hc1_2
 clear hr1_2 hc1_2
 have HR1_3 := Aside0.mk hr1_3
 have HC1_3 := Aside0.mk hc1_3
 clear hr1_3 hc1_3
 have HB := Aside0.mk (Below.refl w.heap.size w)
 have H : ((diff_Lines.f k a0_0 l0_1 l0_2 l0_3 a1_0 l1_1 l1_2 l1_3).bind fun t209 => (some ((t209.length : Int) == 0))) = some r := h
 clear h
 replace H := Option.bind_eq_some_iff.mp H
 obtain ⟨t209, A30, H⟩ := H
 replace H : (some ((t209.length : Int) == 0)) = some r := H
 have A3 := Aside0.mk A30
 clear A30
 obtain rfl := Option.some.inj H
 go_enter Try.func33, Try.ntmps33
 go_wp2_with (first | ((with_reducible refine gate_dst (N := 2) rfl ?_); refine box_event ?hg (N := 2) ?hd (cs := #[.string a0_0, .slice A0_1 l0_1.length c0_1, .slice A0_2 l0_2.length c0_2, .slice A0_3 l0_3.length c0_3]) (t := 59) ?hr ?_; (case hd => rfl); (case hg => rfl); (case hr => first | (go_simp; done) | (go_simp; rfl)); intro gb207 hg w4 hbox hb; have hB_ := bz15_ hb (brw HB.out); have n0_ := Aside0.mk (below_step hB_ hb); have n1_ := Aside0.mk (hbox); have n2_ := Aside0.mk ((by rw [hg]; exact (below_size hB_) : w.heap.size ≤ gb207)); have n3_ := Aside0.mk ((by rw [hg]; exact (below_size hB_) : w.heap.size ≤ gb207)); clear HB; have HB := n0_; have BK207 := n1_; have GW207 := n2_; have GE207 := n3_; clear n0_ n1_ n2_ n3_; clear hb hbox hg) | ((with_reducible refine gate_dst (N := 3) rfl ?_); refine box_event ?hg (N := 3) ?hd (cs := #[.string a1_0, .slice A1_1 l1_1.length c1_1, .slice A1_2 l1_2.length c1_2, .slice A1_3 l1_3.length c1_3]) (t := 59) ?hr ?_; (case hd => rfl); (case hg => rfl); (case hr => first | (go_simp; done) | (go_simp; rfl)); intro gb208 hg w5 hbox hb; have hB_ := bz15_ hb (by repeat (first | (with_reducible first | exact HB.out | apply below_alloc | apply pw_below_drewN | apply below_drew1 | refine below_set ?_ GE207.out) | exact HB.out)); have n0_ := Aside0.mk (blk_below (grw BK207.out) hb); have n1_ := Aside0.mk (below_step hB_ hb); have n2_ := Aside0.mk (hbox); have n3_ := Aside0.mk ((by rw [hg]; exact (below_size hB_) : w.heap.size ≤ gb208)); have n4_ := Aside0.mk ((by rw [hg]; exact (below_size hB_) : w.heap.size ≤ gb208)); have n5_ := Aside0.mk ((by rw [hg]; exact Nat.ne_of_lt (blk_lt (grw BK207.out)) : gb207 ≠ gb208)); have n6_ := Aside0.mk ((by rw [hg]; exact Nat.ne_of_gt (blk_lt (grw BK207.out)) : gb208 ≠ gb207)); clear BK207; clear HB; have BK207 := n0_; have HB := n1_; have BK208 := n2_; have GW208 := n3_; have GE208 := n4_; have NB207_208 := n5_; have NB208_207 := n6_; clear n0_ n1_ n2_ n3_ n4_ n5_ n6_; clear hb hbox hg; have hnb6 := NB207_208.out; have hnc6 := NB208_207.out; obtain ⟨hcz7_0, hcz7_1, hcz7_2, hcz7_3⟩ := cz4_ BK207.out; obtain ⟨hfz7_0, hfz7_1, hfz7_2, hfz7_3⟩ := cf4_ BK207.out; obtain ⟨hcz8_0, hcz8_1, hcz8_2, hcz8_3⟩ := cz4_ BK208.out; obtain ⟨hfz8_0, hfz8_1, hfz8_2, hfz8_3⟩ := cf4_ BK208.out) | ((with_reducible refine gate_callee (f := 30) rfl ?_); refine goesL_ (some 7) rfl rfl Try.func30 (by kernel_rfl) rfl #[.agg #[.string a0_0, .slice A0_1 l0_1.length c0_1, .slice A0_2 l0_2.length c0_2, .slice A0_3 l0_3.length c0_3], .agg #[.string a1_0, .slice A1_1 l1_1.length c1_1, .slice A1_2 l1_2.length c1_2, .slice A1_3 l1_3.length c1_3]] rfl (by (try simp only [List.map_toArray, List.map_cons, List.map_nil]); first | done | rfl | (simp only [List.length_drop, List.length_take]; rfl)) ?_; (with_reducible refine (diff_Lines.calls k a0_0 _ _ l0_1 _ _ l0_2 _ _ l0_3 a1_0 _ _ l1_1 _ _ l1_2 _ _ l1_3 t209 _ ?side1 ?side2 ?side3 ?side4 ?side5 ?side6 ?side7 ?side8 ?side9 ?side10 ?side11 ?side12 A3.out).mono ?_); (case side1 => repeat (first | exact (Kd.C_below HR0_1.out HB.out) | (with_reducible refine Kd.C_alloc ?_ _) | (with_reducible refine Kd.C_drewN ?_ _) | (with_reducible refine Kd.C_drew ?_))); (case side2 => exact HC0_1.out); (case side3 => repeat (first | exact (Kd.C_below HR0_2.out HB.out) | (with_reducible refine Kd.C_alloc ?_ _) | (with_reducible refine Kd.C_drewN ?_ _) | (with_reducible refine Kd.C_drew ?_))); (case side4 => exact HC0_2.out); (case side5 => repeat (first | exact (Kd.C_below HR0_3.out HB.out) | (with_reducible refine Kd.C_alloc ?_ _) | (with_reducible refine Kd.C_drewN ?_ _) | (with_reducible refine Kd.C_drew ?_))); (case side6 => exact HC0_3.out); (case side7 => repeat (first | exact (Kd.C_below HR1_1.out HB.out) | (with_reducible refine Kd.C_alloc ?_ _) | (with_reducible refine Kd.C_drewN ?_ _) | (with_reducible refine Kd.C_drew ?_))); (case side8 => exact HC1_1.out); (case side9 => repeat (first | exact (Kd.C_below HR1_2.out HB.out) | (with_reducible refine Kd.C_alloc ?_ _) | (with_reducible refine Kd.C_drewN ?_ _) | (with_reducible refine Kd.C_drew ?_))); (case side10 => exact HC1_2.out); (case side11 => repeat (first | exact (Kd.C_below HR1_3.out HB.out) | (with_reducible refine Kd.C_alloc ?_ _) | (with_reducible refine Kd.C_drewN ?_ _) | (with_reducible refine Kd.C_drew ?_))); (case side12 => exact HC1_3.out); rintro e w9 ⟨v210, rfl, ho0, hb⟩; have hB_ := bz15_ hb (by repeat (first | (with_reducible first | exact HB.out | apply below_alloc | apply pw_below_drewN | apply below_drew1 | refine below_set ?_ GE207.out | refine below_set ?_ GE208.out) | exact HB.out)); refine ⟨_, rfl, ?_⟩; have n0_ := Aside0.mk (Kd.R_lower ho0 (below_size hB_)); have n1_ := Aside0.mk (blk_below (grw BK207.out) hb); have n2_ := Aside0.mk (blk_below (grw BK208.out) hb); have n3_ := Aside0.mk (below_step hB_ hb); clear BK207; clear BK208; clear HB; have HO211 := n0_; have BK207 := n1_; have BK208 := n2_; have HB := n3_; clear n0_ n1_ n2_ n3_; (try clear hb); (try clear hb2); (try clear hk); (try clear hi); (try clear ho0); obtain ⟨Ao10, co10, eo10⟩ := Kd.R_slice HO211.out; subst eo10))
 go_ret
 exact ⟨by first | rfl | (simp [errW_none, errW_some] <;> rfl) | (simp [*, errW_none, errW_some] <;> rfl), by repeat (first | (with_reducible first | exact HB.out | apply below_alloc | apply pw_below_drewN | apply below_drew1 | refine below_set ?_ GE207.out | refine below_set ?_ GE208.out) | exact HB.out)⟩

/-! ### semblancelaw53_awake: function 29 -/
def semblancelaw53_awake.f (k : Nat)  : Option (Bool) := (some (([(⟨(⟨#[116]⟩ : ByteArray), 2, (-1), ([] : List (S130)), ([] : List (S130)), ([] : List (S102))⟩ : S99), (⟨(⟨#[97]⟩ : ByteArray), 1, 0, ([] : List (S130)), ([] : List (S130)), ([] : List (S102))⟩ : S99), (⟨(⟨#[98]⟩ : ByteArray), 1, 0, ([] : List (S130)), ([] : List (S130)), ([] : List (S102))⟩ : S99)] : List (S99)) : List (S99))).bind fun y212 => ((some (([(⟨(⟨#[116]⟩ : ByteArray), 3, (-1), ([] : List (S130)), ([] : List (S130)), ([] : List (S102))⟩ : S99), (⟨(⟨#[97]⟩ : ByteArray), 1, 0, ([] : List (S130)), ([] : List (S130)), ([] : List (S102))⟩ : S99), (⟨(⟨#[122]⟩ : ByteArray), 1, 0, ([] : List (S130)), ([] : List (S130)), ([] : List (S102))⟩ : S99)] : List (S99)) : List (S99))).bind fun y216 => ((diff_Lines.f k (⟨#[99]⟩ : ByteArray) ([] : List ByteArray) ([] : List (S95)) y212 (⟨#[100]⟩ : ByteArray) ([] : List ByteArray) ([] : List (S95)) y216).bind fun t220 => ((semblanceref01_Texts.f k t220 (([(⟨#[110, 97, 109, 101]⟩ : ByteArray), (⟨#[126, 32, 116]⟩ : ByteArray), (⟨#[45, 32, 98]⟩ : ByteArray), (⟨#[43, 32, 122]⟩ : ByteArray)] : List ByteArray))).bind fun t226 => (if t226 = true then ((diff_Same.f k (⟨#[99]⟩ : ByteArray) ([] : List ByteArray) ([] : List (S95)) y212 (⟨#[99]⟩ : ByteArray) ([] : List ByteArray) ([] : List (S95)) y212).bind fun t227 => (if t227 = true then ((diff_Same.f k (⟨#[99]⟩ : ByteArray) ([] : List ByteArray) ([] : List (S95)) y212 (⟨#[100]⟩ : ByteArray) ([] : List ByteArray) ([] : List (S95)) y216).bind fun t228 => (some (!t228))) else (some false))) else (some false)))))
theorem semblancelaw53_awake.mono : ∀ k, LeO (semblancelaw53_awake.f k ) (semblancelaw53_awake.f (k + 1) ) := by
  intro  k
  unfold semblancelaw53_awake.f
  repeat' first
      | (with_reducible exact diff_Lines.mono _ _ _ _ _ _ _ _ _)
      | (with_reducible exact diff_Same.mono _ _ _ _ _ _ _ _ _)
      | (with_reducible exact semblanceref01_Texts.mono _ _ _)
      | (with_reducible exact LeO.refl _)
      | (with_reducible exact LeO.none _)
      | (with_reducible refine LeO.ite ?_ ?_)
      | (with_reducible refine LeO.bind ?_ (fun _ => ?_))
      | exact diff_Lines.mono _ _ _ _ _ _ _ _ _
      | exact diff_Same.mono _ _ _ _ _ _ _ _ _
      | exact semblanceref01_Texts.mono _ _ _
      | exact LeO.none _
      | refine LeO.ite ?_ ?_
      | refine LeO.bind ?_ (fun _ => ?_)
theorem bz16_ {W W2 w : World} (_ : Below W.heap.size W W2) (h : Below w.heap.size w W) : Below w.heap.size w W := h
set_option maxHeartbeats 8000000 in
set_option maxRecDepth 100000 in
theorem semblancelaw53_awake.calls0 (k : Nat) (r : Bool) (w : World) (hr : r = true) (h : semblancelaw53_awake.f k  = some r) :
  Calls Try.prog 29 #[] w fun e w' => e = .returned (.bool r) ∧ Below w.heap.size w w' := by
 have hu99 := Try.underlying99
 have hu59 := Try.underlying59
 have HB := Aside0.mk (Below.refl w.heap.size w)
 have H : ((some (([(⟨(⟨#[116]⟩ : ByteArray), 2, (-1), ([] : List (S130)), ([] : List (S130)), ([] : List (S102))⟩ : S99), (⟨(⟨#[97]⟩ : ByteArray), 1, 0, ([] : List (S130)), ([] : List (S130)), ([] : List (S102))⟩ : S99), (⟨(⟨#[98]⟩ : ByteArray), 1, 0, ([] : List (S130)), ([] : List (S130)), ([] : List (S102))⟩ : S99)] : List (S99)) : List (S99))).bind fun y212 => ((some (([(⟨(⟨#[116]⟩ : ByteArray), 3, (-1), ([] : List (S130)), ([] : List (S130)), ([] : List (S102))⟩ : S99), (⟨(⟨#[97]⟩ : ByteArray), 1, 0, ([] : List (S130)), ([] : List (S130)), ([] : List (S102))⟩ : S99), (⟨(⟨#[122]⟩ : ByteArray), 1, 0, ([] : List (S130)), ([] : List (S130)), ([] : List (S102))⟩ : S99)] : List (S99)) : List (S99))).bind fun y216 => ((diff_Lines.f k (⟨#[99]⟩ : ByteArray) ([] : List ByteArray) ([] : List (S95)) y212 (⟨#[100]⟩ : ByteArray) ([] : List ByteArray) ([] : List (S95)) y216).bind fun t220 => ((semblanceref01_Texts.f k t220 (([(⟨#[110, 97, 109, 101]⟩ : ByteArray), (⟨#[126, 32, 116]⟩ : ByteArray), (⟨#[45, 32, 98]⟩ : ByteArray), (⟨#[43, 32, 122]⟩ : ByteArray)] : List ByteArray))).bind fun t226 => (if t226 = true then ((diff_Same.f k (⟨#[99]⟩ : ByteArray) ([] : List ByteArray) ([] : List (S95)) y212 (⟨#[99]⟩ : ByteArray) ([] : List ByteArray) ([] : List (S95)) y212).bind fun t227 => (if t227 = true then ((diff_Same.f k (⟨#[99]⟩ : ByteArray) ([] : List ByteArray) ([] : List (S95)) y212 (⟨#[100]⟩ : ByteArray) ([] : List ByteArray) ([] : List (S95)) y216).bind fun t228 => (some (!t228))) else (some false))) else (some false)))))) = some r := h
 clear h
 obtain ⟨y212, hy212⟩ : ∃ y_ : List (S99), y_ = (([(⟨(⟨#[116]⟩ : ByteArray), 2, (-1), ([] : List (S130)), ([] : List (S130)), ([] : List (S102))⟩ : S99), (⟨(⟨#[97]⟩ : ByteArray), 1, 0, ([] : List (S130)), ([] : List (S130)), ([] : List (S102))⟩ : S99), (⟨(⟨#[98]⟩ : ByteArray), 1, 0, ([] : List (S130)), ([] : List (S130)), ([] : List (S102))⟩ : S99)] : List (S99))) := ⟨_, rfl⟩
 replace H : ((some (([(⟨(⟨#[116]⟩ : ByteArray), 3, (-1), ([] : List (S130)), ([] : List (S130)), ([] : List (S102))⟩ : S99), (⟨(⟨#[97]⟩ : ByteArray), 1, 0, ([] : List (S130)), ([] : List (S130)), ([] : List (S102))⟩ : S99), (⟨(⟨#[122]⟩ : ByteArray), 1, 0, ([] : List (S130)), ([] : List (S130)), ([] : List (S102))⟩ : S99)] : List (S99)) : List (S99))).bind fun y216 => ((diff_Lines.f k (⟨#[99]⟩ : ByteArray) ([] : List ByteArray) ([] : List (S95)) y212 (⟨#[100]⟩ : ByteArray) ([] : List ByteArray) ([] : List (S95)) y216).bind fun t220 => ((semblanceref01_Texts.f k t220 (([(⟨#[110, 97, 109, 101]⟩ : ByteArray), (⟨#[126, 32, 116]⟩ : ByteArray), (⟨#[45, 32, 98]⟩ : ByteArray), (⟨#[43, 32, 122]⟩ : ByteArray)] : List ByteArray))).bind fun t226 => (if t226 = true then ((diff_Same.f k (⟨#[99]⟩ : ByteArray) ([] : List ByteArray) ([] : List (S95)) y212 (⟨#[99]⟩ : ByteArray) ([] : List ByteArray) ([] : List (S95)) y212).bind fun t227 => (if t227 = true then ((diff_Same.f k (⟨#[99]⟩ : ByteArray) ([] : List ByteArray) ([] : List (S95)) y212 (⟨#[100]⟩ : ByteArray) ([] : List ByteArray) ([] : List (S95)) y216).bind fun t228 => (some (!t228))) else (some false))) else (some false))))) = some r := by first | (rw [hy212]; with_reducible exact H) | (have H2_ := (Option.bind_some _ _).symm.trans H; rw [hy212]; with_reducible exact H2_) | (have H2_ := (Option.bind_some _ _).symm.trans H; with_reducible exact H2_) | with_reducible exact H | (rw [hy212]; exact H) | exact H
 have Ny212 := Aside0.mk hy212
 clear hy212
 obtain ⟨y216, hy216⟩ : ∃ y_ : List (S99), y_ = (([(⟨(⟨#[116]⟩ : ByteArray), 3, (-1), ([] : List (S130)), ([] : List (S130)), ([] : List (S102))⟩ : S99), (⟨(⟨#[97]⟩ : ByteArray), 1, 0, ([] : List (S130)), ([] : List (S130)), ([] : List (S102))⟩ : S99), (⟨(⟨#[122]⟩ : ByteArray), 1, 0, ([] : List (S130)), ([] : List (S130)), ([] : List (S102))⟩ : S99)] : List (S99))) := ⟨_, rfl⟩
 replace H : ((diff_Lines.f k (⟨#[99]⟩ : ByteArray) ([] : List ByteArray) ([] : List (S95)) y212 (⟨#[100]⟩ : ByteArray) ([] : List ByteArray) ([] : List (S95)) y216).bind fun t220 => ((semblanceref01_Texts.f k t220 (([(⟨#[110, 97, 109, 101]⟩ : ByteArray), (⟨#[126, 32, 116]⟩ : ByteArray), (⟨#[45, 32, 98]⟩ : ByteArray), (⟨#[43, 32, 122]⟩ : ByteArray)] : List ByteArray))).bind fun t226 => (if t226 = true then ((diff_Same.f k (⟨#[99]⟩ : ByteArray) ([] : List ByteArray) ([] : List (S95)) y212 (⟨#[99]⟩ : ByteArray) ([] : List ByteArray) ([] : List (S95)) y212).bind fun t227 => (if t227 = true then ((diff_Same.f k (⟨#[99]⟩ : ByteArray) ([] : List ByteArray) ([] : List (S95)) y212 (⟨#[100]⟩ : ByteArray) ([] : List ByteArray) ([] : List (S95)) y216).bind fun t228 => (some (!t228))) else (some false))) else (some false)))) = some r := by first | (rw [hy216]; with_reducible exact H) | (have H2_ := (Option.bind_some _ _).symm.trans H; rw [hy216]; with_reducible exact H2_) | (have H2_ := (Option.bind_some _ _).symm.trans H; with_reducible exact H2_) | with_reducible exact H | (rw [hy216]; exact H) | exact H
 have Ny216 := Aside0.mk hy216
 clear hy216
 replace H := Option.bind_eq_some_iff.mp H
 obtain ⟨t220, A10, H⟩ := H
 replace H : ((semblanceref01_Texts.f k t220 (([(⟨#[110, 97, 109, 101]⟩ : ByteArray), (⟨#[126, 32, 116]⟩ : ByteArray), (⟨#[45, 32, 98]⟩ : ByteArray), (⟨#[43, 32, 122]⟩ : ByteArray)] : List ByteArray))).bind fun t226 => (if t226 = true then ((diff_Same.f k (⟨#[99]⟩ : ByteArray) ([] : List ByteArray) ([] : List (S95)) y212 (⟨#[99]⟩ : ByteArray) ([] : List ByteArray) ([] : List (S95)) y212).bind fun t227 => (if t227 = true then ((diff_Same.f k (⟨#[99]⟩ : ByteArray) ([] : List ByteArray) ([] : List (S95)) y212 (⟨#[100]⟩ : ByteArray) ([] : List ByteArray) ([] : List (S95)) y216).bind fun t228 => (some (!t228))) else (some false))) else (some false))) = some r := H
 have A1 := Aside0.mk A10
 clear A10
 obtain ⟨y223, hy223⟩ : ∃ y_ : List ByteArray, y_ = (([(⟨#[110, 97, 109, 101]⟩ : ByteArray), (⟨#[126, 32, 116]⟩ : ByteArray), (⟨#[45, 32, 98]⟩ : ByteArray), (⟨#[43, 32, 122]⟩ : ByteArray)] : List ByteArray)) := ⟨_, rfl⟩
 replace H : ((semblanceref01_Texts.f k t220 y223).bind fun t226 => (if t226 = true then ((diff_Same.f k (⟨#[99]⟩ : ByteArray) ([] : List ByteArray) ([] : List (S95)) y212 (⟨#[99]⟩ : ByteArray) ([] : List ByteArray) ([] : List (S95)) y212).bind fun t227 => (if t227 = true then ((diff_Same.f k (⟨#[99]⟩ : ByteArray) ([] : List ByteArray) ([] : List (S95)) y212 (⟨#[100]⟩ : ByteArray) ([] : List ByteArray) ([] : List (S95)) y216).bind fun t228 => (some (!t228))) else (some false))) else (some false))) = some r := by first | (rw [hy223]; with_reducible exact H) | (have H2_ := (Option.bind_some _ _).symm.trans H; rw [hy223]; with_reducible exact H2_) | (have H2_ := (Option.bind_some _ _).symm.trans H; with_reducible exact H2_) | with_reducible exact H | (rw [hy223]; exact H) | exact H
 have Ny223 := Aside0.mk hy223
 clear hy223
 replace H := Option.bind_eq_some_iff.mp H
 obtain ⟨t226, A20, H⟩ := H
 replace H : (if t226 = true then ((diff_Same.f k (⟨#[99]⟩ : ByteArray) ([] : List ByteArray) ([] : List (S95)) y212 (⟨#[99]⟩ : ByteArray) ([] : List ByteArray) ([] : List (S95)) y212).bind fun t227 => (if t227 = true then ((diff_Same.f k (⟨#[99]⟩ : ByteArray) ([] : List ByteArray) ([] : List (S95)) y212 (⟨#[100]⟩ : ByteArray) ([] : List ByteArray) ([] : List (S95)) y216).bind fun t228 => (some (!t228))) else (some false))) else (some false)) = some r := H
 have A2 := Aside0.mk A20
 clear A20
 by_cases c3 : t226 = true
 rotate_left
 ·replace c3 := Bool.eq_false_iff.mpr c3
  subst c3
  have H1 : (some false) = some r := by rw [if_neg (show ¬ (false = true) by decide)] at H; exact H
  clear H
  have H := H1
  clear H1
  rw [hr] at H
  exact absurd (Option.some.inj H) Bool.false_ne_true
 subst c3
 have H1 : ((diff_Same.f k (⟨#[99]⟩ : ByteArray) ([] : List ByteArray) ([] : List (S95)) y212 (⟨#[99]⟩ : ByteArray) ([] : List ByteArray) ([] : List (S95)) y212).bind fun t227 => (if t227 = true then ((diff_Same.f k (⟨#[99]⟩ : ByteArray) ([] : List ByteArray) ([] : List (S95)) y212 (⟨#[100]⟩ : ByteArray) ([] : List ByteArray) ([] : List (S95)) y216).bind fun t228 => (some (!t228))) else (some false))) = some r := by rw [if_pos rfl] at H; exact H
 clear H
 have H := H1
 clear H1
 replace H := Option.bind_eq_some_iff.mp H
 obtain ⟨t227, A40, H⟩ := H
 replace H : (if t227 = true then ((diff_Same.f k (⟨#[99]⟩ : ByteArray) ([] : List ByteArray) ([] : List (S95)) y212 (⟨#[100]⟩ : ByteArray) ([] : List ByteArray) ([] : List (S95)) y216).bind fun t228 => (some (!t228))) else (some false)) = some r := H
 have A4 := Aside0.mk A40
 clear A40
 by_cases c5 : t227 = true
 rotate_left
 ·replace c5 := Bool.eq_false_iff.mpr c5
  subst c5
  have H1 : (some false) = some r := by rw [if_neg (show ¬ (false = true) by decide)] at H; exact H
  clear H
  have H := H1
  clear H1
  rw [hr] at H
  exact absurd (Option.some.inj H) Bool.false_ne_true
 subst c5
 have H1 : ((diff_Same.f k (⟨#[99]⟩ : ByteArray) ([] : List ByteArray) ([] : List (S95)) y212 (⟨#[100]⟩ : ByteArray) ([] : List ByteArray) ([] : List (S95)) y216).bind fun t228 => (some (!t228))) = some r := by rw [if_pos rfl] at H; exact H
 clear H
 have H := H1
 clear H1
 replace H := Option.bind_eq_some_iff.mp H
 obtain ⟨t228, A60, H⟩ := H
 replace H : (some (!t228)) = some r := H
 have A6 := Aside0.mk A60
 clear A60
 obtain rfl := Option.some.inj H
 go_enter Try.func29, Try.ntmps29
 go_wp2_with (first | ((with_reducible refine gate_dst (N := 6) rfl ?_); refine Kd.R_lit k99 _ 99 ?hg (N := 6) ?hd (xs := ([(⟨(⟨#[116]⟩ : ByteArray), 2, (-1), ([] : List (S130)), ([] : List (S130)), ([] : List (S102))⟩ : S99), (⟨(⟨#[97]⟩ : ByteArray), 1, 0, ([] : List (S130)), ([] : List (S130)), ([] : List (S102))⟩ : S99), (⟨(⟨#[98]⟩ : ByteArray), 1, 0, ([] : List (S130)), ([] : List (S130)), ([] : List (S102))⟩ : S99)] : List (S99))) (inner := [.string (⟨#[116]⟩ : ByteArray), .int .i64 2, .int .i64 (-1), .slice none 0 0, .slice none 0 0, .slice none 0 0, .string (⟨#[97]⟩ : ByteArray), .int .i64 1, .int .i64 0, .slice none 0 0, .slice none 0 0, .slice none 0 0, .string (⟨#[98]⟩ : ByteArray), .int .i64 1, .int .i64 0, .slice none 0 0, .slice none 0 0, .slice none 0 0]) (ok := fun _ => True) (okp := fun _ => True) ?hr ?hp (fun _ hk => hk) trivial (Below.refl _ _) (Nat.le_refl _) (by simp) ?_; (case hd => rfl); (case hg => rfl); (case hr => first | (go_simp; done) | (go_simp; rfl)); (case hp => exact (Reps.c6 (show Kd.M k99 _ _ _ (⟨(⟨#[116]⟩ : ByteArray), 2, (-1), ([] : List (S130)), ([] : List (S130)), ([] : List (S102))⟩ : S99) [.string (⟨#[116]⟩ : ByteArray), .int .i64 2, .int .i64 (-1), .slice none 0 0, .slice none 0 0, .slice none 0 0] from (k99_mkM _ _ _ (⟨(⟨#[116]⟩ : ByteArray), 2, (-1), ([] : List (S130)), ([] : List (S130)), ([] : List (S102))⟩ : S99) (Kd.R_nil _ _ _ _ _) (Kd.R_nil _ _ _ _ _) (Kd.R_nil _ _ _ _ _))) (Reps.c6 (show Kd.M k99 _ _ _ (⟨(⟨#[97]⟩ : ByteArray), 1, 0, ([] : List (S130)), ([] : List (S130)), ([] : List (S102))⟩ : S99) [.string (⟨#[97]⟩ : ByteArray), .int .i64 1, .int .i64 0, .slice none 0 0, .slice none 0 0, .slice none 0 0] from (k99_mkM _ _ _ (⟨(⟨#[97]⟩ : ByteArray), 1, 0, ([] : List (S130)), ([] : List (S130)), ([] : List (S102))⟩ : S99) (Kd.R_nil _ _ _ _ _) (Kd.R_nil _ _ _ _ _) (Kd.R_nil _ _ _ _ _))) (Reps.c6 (show Kd.M k99 _ _ _ (⟨(⟨#[98]⟩ : ByteArray), 1, 0, ([] : List (S130)), ([] : List (S130)), ([] : List (S102))⟩ : S99) [.string (⟨#[98]⟩ : ByteArray), .int .i64 1, .int .i64 0, .slice none 0 0, .slice none 0 0, .slice none 0 0] from (k99_mkM _ _ _ (⟨(⟨#[98]⟩ : ByteArray), 1, 0, ([] : List (S130)), ([] : List (S130)), ([] : List (S102))⟩ : S99) (Kd.R_nil _ _ _ _ _) (Kd.R_nil _ _ _ _ _) (Kd.R_nil _ _ _ _ _))) (Reps.none _ _))))); intro v213 w7 ho8 hb hg_ hnew_; clear hg_ hnew_; (first | rw [← Ny212.out] at ho8 | (simp only [Int.reduceToNat] at ho8; rw [← Ny212.out] at ho8)); have n0_ := Aside0.mk (Kd.R_lower ho8 (below_size (brw HB.out))); have n1_ := Aside0.mk (below_step (brw HB.out) hb); clear HB; have HO214 := n0_; have HB := n1_; clear n0_ n1_; clear hb ho8; obtain ⟨Ao9, co9, eo9⟩ := Kd.R_slice HO214.out; subst eo9) | ((with_reducible refine gate_dst (N := 1) rfl ?_); refine box_event ?hg (N := 1) ?hd (cs := #[.string (⟨#[]⟩ : ByteArray), .slice none 0 0, .slice none 0 0, .slice none 0 0]) (t := 59) ?hr ?_; (case hd => rfl); (case hg => rfl); (case hr => first | (go_simp; done) | (go_simp; rfl)); intro gb215 hg w10 hbox hb; have hB_ := bz16_ hb (brw HB.out); have n0_ := Aside0.mk (Kd.R_below (by (with_reducible repeat (first | apply Kd.R_alloc | apply Kd.R_drewN | apply Kd.R_drew)); exact HO214.out) hb); have n1_ := Aside0.mk (below_step hB_ hb); have n2_ := Aside0.mk (hbox); have n3_ := Aside0.mk ((by rw [hg]; exact (below_size hB_) : w.heap.size ≤ gb215)); have n4_ := Aside0.mk ((by rw [hg]; exact (below_size hB_) : w.heap.size ≤ gb215)); clear HO214; clear HB; have HO214 := n0_; have HB := n1_; have BK215 := n2_; have GW215 := n3_; have GE215 := n4_; clear n0_ n1_ n2_ n3_ n4_; clear hb hbox hg; obtain ⟨hcz11_0, hcz11_1, hcz11_2, hcz11_3⟩ := cz4_ BK215.out; obtain ⟨hfz11_0, hfz11_1, hfz11_2, hfz11_3⟩ := cf4_ BK215.out) | ((with_reducible refine gate_dst (N := 11) rfl ?_); refine Kd.R_lit k99 _ 99 ?hg (N := 11) ?hd (xs := ([(⟨(⟨#[116]⟩ : ByteArray), 3, (-1), ([] : List (S130)), ([] : List (S130)), ([] : List (S102))⟩ : S99), (⟨(⟨#[97]⟩ : ByteArray), 1, 0, ([] : List (S130)), ([] : List (S130)), ([] : List (S102))⟩ : S99), (⟨(⟨#[122]⟩ : ByteArray), 1, 0, ([] : List (S130)), ([] : List (S130)), ([] : List (S102))⟩ : S99)] : List (S99))) (inner := [.string (⟨#[116]⟩ : ByteArray), .int .i64 3, .int .i64 (-1), .slice none 0 0, .slice none 0 0, .slice none 0 0, .string (⟨#[97]⟩ : ByteArray), .int .i64 1, .int .i64 0, .slice none 0 0, .slice none 0 0, .slice none 0 0, .string (⟨#[122]⟩ : ByteArray), .int .i64 1, .int .i64 0, .slice none 0 0, .slice none 0 0, .slice none 0 0]) (ok := fun _ => True) (okp := fun _ => True) ?hr ?hp (fun _ hk => hk) trivial (Below.refl _ _) (Nat.le_refl _) (by simp) ?_; (case hd => rfl); (case hg => rfl); (case hr => first | (go_simp; done) | (go_simp; rfl)); (case hp => exact (Reps.c6 (show Kd.M k99 _ _ _ (⟨(⟨#[116]⟩ : ByteArray), 3, (-1), ([] : List (S130)), ([] : List (S130)), ([] : List (S102))⟩ : S99) [.string (⟨#[116]⟩ : ByteArray), .int .i64 3, .int .i64 (-1), .slice none 0 0, .slice none 0 0, .slice none 0 0] from (k99_mkM _ _ _ (⟨(⟨#[116]⟩ : ByteArray), 3, (-1), ([] : List (S130)), ([] : List (S130)), ([] : List (S102))⟩ : S99) (Kd.R_nil _ _ _ _ _) (Kd.R_nil _ _ _ _ _) (Kd.R_nil _ _ _ _ _))) (Reps.c6 (show Kd.M k99 _ _ _ (⟨(⟨#[97]⟩ : ByteArray), 1, 0, ([] : List (S130)), ([] : List (S130)), ([] : List (S102))⟩ : S99) [.string (⟨#[97]⟩ : ByteArray), .int .i64 1, .int .i64 0, .slice none 0 0, .slice none 0 0, .slice none 0 0] from (k99_mkM _ _ _ (⟨(⟨#[97]⟩ : ByteArray), 1, 0, ([] : List (S130)), ([] : List (S130)), ([] : List (S102))⟩ : S99) (Kd.R_nil _ _ _ _ _) (Kd.R_nil _ _ _ _ _) (Kd.R_nil _ _ _ _ _))) (Reps.c6 (show Kd.M k99 _ _ _ (⟨(⟨#[122]⟩ : ByteArray), 1, 0, ([] : List (S130)), ([] : List (S130)), ([] : List (S102))⟩ : S99) [.string (⟨#[122]⟩ : ByteArray), .int .i64 1, .int .i64 0, .slice none 0 0, .slice none 0 0, .slice none 0 0] from (k99_mkM _ _ _ (⟨(⟨#[122]⟩ : ByteArray), 1, 0, ([] : List (S130)), ([] : List (S130)), ([] : List (S102))⟩ : S99) (Kd.R_nil _ _ _ _ _) (Kd.R_nil _ _ _ _ _) (Kd.R_nil _ _ _ _ _))) (Reps.none _ _))))); intro v217 w12 ho13 hb hg_ hnew_; clear hg_ hnew_; (first | rw [← Ny216.out] at ho13 | (simp only [Int.reduceToNat] at ho13; rw [← Ny216.out] at ho13)); have n0_ := Aside0.mk (Kd.R_elder' (by (with_reducible repeat (first | apply Kd.R_alloc | apply Kd.R_drewN | apply Kd.R_drew)); exact (Kd.R_mono (Kd.R_far (p := ⟨gb215, 3, none⟩) (Kd.R_far (p := ⟨gb215, 2, none⟩) (Kd.R_far (p := ⟨gb215, 1, none⟩) (Kd.R_far (p := ⟨gb215, 0, none⟩) (Kd.R_types HO214.out BK215.out (by decide)) (fun _ hk => hk.2) (.string (⟨#[99]⟩ : ByteArray))) (fun _ hk => hk.2) (.slice none 0 0)) (fun _ hk => hk.2) (.slice none 0 0)) (fun _ hk => hk.2) (.slice Ao9 y212.length co9)) (fun _ h_ => h_.1))) (Kd.R_base ho13) hb); have n1_ := Aside0.mk (Kd.R_lower (Kd.R_new' ho13 (Kd.R_lt (by (with_reducible repeat (first | apply Kd.R_alloc | apply Kd.R_drewN | apply Kd.R_drew)); exact (Kd.R_mono (Kd.R_far (p := ⟨gb215, 3, none⟩) (Kd.R_far (p := ⟨gb215, 2, none⟩) (Kd.R_far (p := ⟨gb215, 1, none⟩) (Kd.R_far (p := ⟨gb215, 0, none⟩) (Kd.R_types HO214.out BK215.out (by decide)) (fun _ hk => hk.2) (.string (⟨#[99]⟩ : ByteArray))) (fun _ hk => hk.2) (.slice none 0 0)) (fun _ hk => hk.2) (.slice none 0 0)) (fun _ hk => hk.2) (.slice Ao9 y212.length co9)) (fun _ h_ => h_.1))))) (below_size (by repeat (first | (with_reducible first | exact HB.out | apply below_alloc | apply pw_below_drewN | apply below_drew1 | refine below_set ?_ GE215.out) | exact HB.out)))); have n2_ := Aside0.mk (blk_below (g := gb215) (o := .cells #[.string (⟨#[99]⟩ : ByteArray), .slice none 0 0, .slice none 0 0, .slice Ao9 y212.length co9] 59 (0, 0)) (by refine grO ?_; refine blk_put (cs := #[.string (⟨#[99]⟩ : ByteArray), .slice none 0 0, .slice none 0 0, .slice none 0 0]) ?_ 3 _ rfl; refine grO ?_; refine blk_put (cs := #[.string (⟨#[99]⟩ : ByteArray), .slice none 0 0, .slice none 0 0, .slice none 0 0]) ?_ 2 _ rfl; refine grO ?_; refine blk_put (cs := #[.string (⟨#[99]⟩ : ByteArray), .slice none 0 0, .slice none 0 0, .slice none 0 0]) ?_ 1 _ rfl; refine grO ?_; refine blk_put (cs := #[.string (⟨#[]⟩ : ByteArray), .slice none 0 0, .slice none 0 0, .slice none 0 0]) ?_ 0 _ rfl; refine grO ?_; exact BK215.out) hb); have n3_ := Aside0.mk (below_step (by repeat (first | (with_reducible first | exact HB.out | apply below_alloc | apply pw_below_drewN | apply below_drew1 | refine below_set ?_ GE215.out) | exact HB.out)) hb); clear HO214; clear BK215; clear HB; have HO214 := n0_; have HO218 := n1_; have BK215 := n2_; have HB := n3_; clear n0_ n1_ n2_ n3_; clear hb ho13; obtain ⟨Ao14, co14, eo14⟩ := Kd.R_slice HO218.out; subst eo14) | ((with_reducible refine gate_dst (N := 2) rfl ?_); refine box_event ?hg (N := 2) ?hd (cs := #[.string (⟨#[]⟩ : ByteArray), .slice none 0 0, .slice none 0 0, .slice none 0 0]) (t := 59) ?hr ?_; (case hd => rfl); (case hg => rfl); (case hr => first | (go_simp; done) | (go_simp; rfl)); intro gb219 hg w15 hbox hb; have hB_ := bz16_ hb (by repeat (first | (with_reducible first | exact HB.out | apply below_alloc | apply pw_below_drewN | apply below_drew1 | refine below_set ?_ GE215.out) | exact HB.out)); have n0_ := Aside0.mk (Kd.R_below (by (with_reducible repeat (first | apply Kd.R_alloc | apply Kd.R_drewN | apply Kd.R_drew)); exact HO214.out) hb); have n1_ := Aside0.mk (Kd.R_below (by (with_reducible repeat (first | apply Kd.R_alloc | apply Kd.R_drewN | apply Kd.R_drew)); exact HO218.out) hb); have n2_ := Aside0.mk (blk_below (g := gb215) (o := .cells #[.string (⟨#[99]⟩ : ByteArray), .slice none 0 0, .slice none 0 0, .slice Ao9 y212.length co9] 59 (0, 0)) (grw BK215.out) hb); have n3_ := Aside0.mk (below_step hB_ hb); have n4_ := Aside0.mk (hbox); have n5_ := Aside0.mk ((by rw [hg]; exact (below_size hB_) : w.heap.size ≤ gb219)); have n6_ := Aside0.mk ((by rw [hg]; exact (below_size hB_) : w.heap.size ≤ gb219)); have n7_ := Aside0.mk ((by rw [hg]; exact Nat.ne_of_lt (blk_lt (g := gb215) (o := .cells #[.string (⟨#[99]⟩ : ByteArray), .slice none 0 0, .slice none 0 0, .slice Ao9 y212.length co9] 59 (0, 0)) (grw BK215.out)) : gb215 ≠ gb219)); have n8_ := Aside0.mk ((by rw [hg]; exact Nat.ne_of_gt (blk_lt (g := gb215) (o := .cells #[.string (⟨#[99]⟩ : ByteArray), .slice none 0 0, .slice none 0 0, .slice Ao9 y212.length co9] 59 (0, 0)) (grw BK215.out)) : gb219 ≠ gb215)); clear HO214; clear HO218; clear BK215; clear HB; have HO214 := n0_; have HO218 := n1_; have BK215 := n2_; have HB := n3_; have BK219 := n4_; have GW219 := n5_; have GE219 := n6_; have NB215_219 := n7_; have NB219_215 := n8_; clear n0_ n1_ n2_ n3_ n4_ n5_ n6_ n7_ n8_; clear hb hbox hg; have hnb16 := NB219_215.out; have hnc16 := NB215_219.out; obtain ⟨hcz17_0, hcz17_1, hcz17_2, hcz17_3⟩ := cz4_ BK219.out; obtain ⟨hfz17_0, hfz17_1, hfz17_2, hfz17_3⟩ := cf4_ BK219.out; obtain ⟨hcz18_0, hcz18_1, hcz18_2, hcz18_3⟩ := cz4_ BK215.out; obtain ⟨hfz18_0, hfz18_1, hfz18_2, hfz18_3⟩ := cf4_ BK215.out) | ((with_reducible refine gate_callee (f := 30) rfl ?_); refine goesL_ (some 15) rfl rfl Try.func30 (by kernel_rfl) rfl #[.agg #[.string (⟨#[99]⟩ : ByteArray), .slice none 0 0, .slice none 0 0, .slice Ao9 y212.length co9], .agg #[.string (⟨#[100]⟩ : ByteArray), .slice none 0 0, .slice none 0 0, .slice Ao14 y216.length co14]] rfl (by (try simp only [List.map_toArray, List.map_cons, List.map_nil]); first | done | rfl | (simp only [List.length_drop, List.length_take]; rfl)) ?_; (refine (diff_Lines.calls k (⟨#[99]⟩ : ByteArray) _ _ ([] : List ByteArray) _ _ ([] : List (S95)) _ _ y212 (⟨#[100]⟩ : ByteArray) _ _ ([] : List ByteArray) _ _ ([] : List (S95)) _ _ y216 t220 _ ?side1 ?side2 ?side3 ?side4 ?side5 ?side6 ?side7 ?side8 ?side9 ?side10 ?side11 ?side12 A1.out).mono ?_); (case side1 => exact Kd.C_nil _ _); (case side2 => exact Nat.le_refl _); (case side3 => exact Kd.C_nil _ _); (case side4 => exact Nat.le_refl _); (case side5 => refine (Kd.R_reads' (e := 99) (base := w.heap.size) (ok := fun k_ => (True ∧ some k_ ≠ (.slice Ao14 y216.length co14 : Value).ownBlock)) (n := y212.length) (c := co9) ?_).2.2; exact (by (with_reducible repeat (first | apply Kd.R_alloc | apply Kd.R_drewN | apply Kd.R_drew)); exact (Kd.R_mono (Kd.R_far (p := ⟨gb219, 3, none⟩) (Kd.R_far (p := ⟨gb219, 2, none⟩) (Kd.R_far (p := ⟨gb219, 1, none⟩) (Kd.R_far (p := ⟨gb219, 0, none⟩) (Kd.R_types HO214.out BK219.out (by decide)) (fun _ hk => hk.2) (.string (⟨#[100]⟩ : ByteArray))) (fun _ hk => hk.2) (.slice none 0 0)) (fun _ hk => hk.2) (.slice none 0 0)) (fun _ hk => hk.2) (.slice Ao14 y216.length co14)) (fun _ h_ => h_.1)))); (case side6 => exact (Kd.R_reads' HO214.out).2.1); (case side7 => exact Kd.C_nil _ _); (case side8 => exact Nat.le_refl _); (case side9 => exact Kd.C_nil _ _); (case side10 => exact Nat.le_refl _); (case side11 => refine (Kd.R_reads' (e := 99) (base := w.heap.size) (ok := fun k_ => (True ∧ some k_ ≠ (.slice Ao9 y212.length co9 : Value).ownBlock)) (n := y216.length) (c := co14) ?_).2.2; exact (by (with_reducible repeat (first | apply Kd.R_alloc | apply Kd.R_drewN | apply Kd.R_drew)); exact (Kd.R_mono (Kd.R_far (p := ⟨gb219, 3, none⟩) (Kd.R_far (p := ⟨gb219, 2, none⟩) (Kd.R_far (p := ⟨gb219, 1, none⟩) (Kd.R_far (p := ⟨gb219, 0, none⟩) (Kd.R_types HO218.out BK219.out (by decide)) (fun _ hk => hk.2) (.string (⟨#[100]⟩ : ByteArray))) (fun _ hk => hk.2) (.slice none 0 0)) (fun _ hk => hk.2) (.slice none 0 0)) (fun _ hk => hk.2) (.slice Ao14 y216.length co14)) (fun _ h_ => h_.1)))); (case side12 => exact (Kd.R_reads' HO218.out).2.1); rintro e w19 ⟨v221, rfl, ho0, hb⟩; have hB_ := bz16_ hb (by repeat (first | (with_reducible first | exact HB.out | apply below_alloc | apply pw_below_drewN | apply below_drew1 | refine below_set ?_ GE215.out | refine below_set ?_ GE219.out) | exact HB.out)); refine ⟨_, rfl, ?_⟩; have n0_ := Aside0.mk (Kd.R_below (by (with_reducible repeat (first | apply Kd.R_alloc | apply Kd.R_drewN | apply Kd.R_drew)); exact (Kd.R_mono (Kd.R_far (p := ⟨gb219, 3, none⟩) (Kd.R_far (p := ⟨gb219, 2, none⟩) (Kd.R_far (p := ⟨gb219, 1, none⟩) (Kd.R_far (p := ⟨gb219, 0, none⟩) (Kd.R_types HO214.out BK219.out (by decide)) (fun _ hk => hk.2) (.string (⟨#[100]⟩ : ByteArray))) (fun _ hk => hk.2) (.slice none 0 0)) (fun _ hk => hk.2) (.slice none 0 0)) (fun _ hk => hk.2) (.slice Ao14 y216.length co14)) (fun _ h_ => h_.1))) hb); have n1_ := Aside0.mk (Kd.R_below (by (with_reducible repeat (first | apply Kd.R_alloc | apply Kd.R_drewN | apply Kd.R_drew)); exact (Kd.R_mono (Kd.R_far (p := ⟨gb219, 3, none⟩) (Kd.R_far (p := ⟨gb219, 2, none⟩) (Kd.R_far (p := ⟨gb219, 1, none⟩) (Kd.R_far (p := ⟨gb219, 0, none⟩) (Kd.R_types HO218.out BK219.out (by decide)) (fun _ hk => hk.2) (.string (⟨#[100]⟩ : ByteArray))) (fun _ hk => hk.2) (.slice none 0 0)) (fun _ hk => hk.2) (.slice none 0 0)) (fun _ hk => hk.2) (.slice Ao14 y216.length co14)) (fun _ h_ => h_.1))) hb); have n2_ := Aside0.mk (Kd.R_lower ho0 (below_size hB_)); have n3_ := Aside0.mk (blk_below (g := gb215) (o := .cells #[.string (⟨#[99]⟩ : ByteArray), .slice none 0 0, .slice none 0 0, .slice Ao9 y212.length co9] 59 (0, 0)) (by refine grO ?_; refine blk_far ?_ NB215_219.out _; refine grO ?_; refine blk_far ?_ NB215_219.out _; refine grO ?_; refine blk_far ?_ NB215_219.out _; refine grO ?_; refine blk_far ?_ NB215_219.out _; refine grO ?_; exact BK215.out) hb); have n4_ := Aside0.mk (blk_below (g := gb219) (o := .cells #[.string (⟨#[100]⟩ : ByteArray), .slice none 0 0, .slice none 0 0, .slice Ao14 y216.length co14] 59 (0, 0)) (by refine grO ?_; refine blk_put (cs := #[.string (⟨#[100]⟩ : ByteArray), .slice none 0 0, .slice none 0 0, .slice none 0 0]) ?_ 3 _ rfl; refine grO ?_; refine blk_put (cs := #[.string (⟨#[100]⟩ : ByteArray), .slice none 0 0, .slice none 0 0, .slice none 0 0]) ?_ 2 _ rfl; refine grO ?_; refine blk_put (cs := #[.string (⟨#[100]⟩ : ByteArray), .slice none 0 0, .slice none 0 0, .slice none 0 0]) ?_ 1 _ rfl; refine grO ?_; refine blk_put (cs := #[.string (⟨#[]⟩ : ByteArray), .slice none 0 0, .slice none 0 0, .slice none 0 0]) ?_ 0 _ rfl; refine grO ?_; exact BK219.out) hb); have n5_ := Aside0.mk (below_step hB_ hb); clear HO214; clear HO218; clear BK215; clear BK219; clear HB; have HO214 := n0_; have HO218 := n1_; have HO222 := n2_; have BK215 := n3_; have BK219 := n4_; have HB := n5_; clear n0_ n1_ n2_ n3_ n4_ n5_; (try clear hb); (try clear hb2); (try clear hk); (try clear hi); (try clear ho0)) | ((with_reducible refine gate_dst (N := 16) rfl ?_); refine Kd.R_lit Kd.string _ 9 ?hg (N := 16) ?hd (xs := ([(⟨#[110, 97, 109, 101]⟩ : ByteArray), (⟨#[126, 32, 116]⟩ : ByteArray), (⟨#[45, 32, 98]⟩ : ByteArray), (⟨#[43, 32, 122]⟩ : ByteArray)] : List ByteArray)) (inner := [.string (⟨#[110, 97, 109, 101]⟩ : ByteArray), .string (⟨#[126, 32, 116]⟩ : ByteArray), .string (⟨#[45, 32, 98]⟩ : ByteArray), .string (⟨#[43, 32, 122]⟩ : ByteArray)]) (ok := fun _ => True) (okp := fun _ => True) ?hr ?hp (fun _ hk => hk) trivial (Below.refl _ _) (Nat.le_refl _) (by simp) ?_; (case hd => rfl); (case hg => rfl); (case hr => first | (go_simp; done) | (go_simp; rfl)); (case hp => exact (Reps.one (show Kd.M Kd.string _ _ _ (⟨#[110, 97, 109, 101]⟩ : ByteArray) [.string (⟨#[110, 97, 109, 101]⟩ : ByteArray)] from rfl) (Reps.one (show Kd.M Kd.string _ _ _ (⟨#[126, 32, 116]⟩ : ByteArray) [.string (⟨#[126, 32, 116]⟩ : ByteArray)] from rfl) (Reps.one (show Kd.M Kd.string _ _ _ (⟨#[45, 32, 98]⟩ : ByteArray) [.string (⟨#[45, 32, 98]⟩ : ByteArray)] from rfl) (Reps.one (show Kd.M Kd.string _ _ _ (⟨#[43, 32, 122]⟩ : ByteArray) [.string (⟨#[43, 32, 122]⟩ : ByteArray)] from rfl) (Reps.none _ _)))))); intro v224 w20 ho21 hb hg_ hnew_; clear hg_ hnew_; (first | rw [← Ny223.out] at ho21 | (simp only [Int.reduceToNat] at ho21; rw [← Ny223.out] at ho21)); have n0_ := Aside0.mk (Kd.R_below (by (with_reducible repeat (first | apply Kd.R_alloc | apply Kd.R_drewN | apply Kd.R_drew)); exact HO214.out) hb); have n1_ := Aside0.mk (Kd.R_below (by (with_reducible repeat (first | apply Kd.R_alloc | apply Kd.R_drewN | apply Kd.R_drew)); exact HO218.out) hb); have n2_ := Aside0.mk (Kd.R_elder' (by (with_reducible repeat (first | apply Kd.R_alloc | apply Kd.R_drewN | apply Kd.R_drew)); exact HO222.out) (Kd.R_base ho21) hb); have n3_ := Aside0.mk (Kd.R_lower (Kd.R_new' ho21 (Kd.R_lt (by (with_reducible repeat (first | apply Kd.R_alloc | apply Kd.R_drewN | apply Kd.R_drew)); exact HO222.out))) (below_size (by repeat (first | (with_reducible first | exact HB.out | apply below_alloc | apply pw_below_drewN | apply below_drew1 | refine below_set ?_ GE215.out | refine below_set ?_ GE219.out) | exact HB.out)))); have n4_ := Aside0.mk (blk_below (g := gb215) (o := .cells #[.string (⟨#[99]⟩ : ByteArray), .slice none 0 0, .slice none 0 0, .slice Ao9 y212.length co9] 59 (0, 0)) (grw BK215.out) hb); have n5_ := Aside0.mk (blk_below (g := gb219) (o := .cells #[.string (⟨#[100]⟩ : ByteArray), .slice none 0 0, .slice none 0 0, .slice Ao14 y216.length co14] 59 (0, 0)) (grw BK219.out) hb); have n6_ := Aside0.mk (below_step (by repeat (first | (with_reducible first | exact HB.out | apply below_alloc | apply pw_below_drewN | apply below_drew1 | refine below_set ?_ GE215.out | refine below_set ?_ GE219.out) | exact HB.out)) hb); clear HO214; clear HO218; clear HO222; clear BK215; clear BK219; clear HB; have HO214 := n0_; have HO218 := n1_; have HO222 := n2_; have HO225 := n3_; have BK215 := n4_; have BK219 := n5_; have HB := n6_; clear n0_ n1_ n2_ n3_ n4_ n5_ n6_; clear hb ho21; obtain ⟨Ao22, co22, eo22⟩ := Kd.R_slice HO222.out; subst eo22; obtain ⟨Ao23, co23, eo23⟩ := Kd.R_slice HO225.out; subst eo23) | ((with_reducible refine gate_callee (f := 31) rfl ?_); refine goesL_ (some 17) rfl rfl Try.func31 (by kernel_rfl) rfl #[.slice Ao22 t220.length co22, .slice Ao23 y223.length co23] rfl (by (try simp only [List.map_toArray, List.map_cons, List.map_nil]); first | done | rfl | (simp only [List.length_drop, List.length_take]; rfl)) ?_; (with_reducible refine (semblanceref01_Texts.calls k _ _ t220 _ _ y223 true _ ?side1 ?side2 ?side3 ?side4 A2.out).mono ?_); (case side1 => repeat (first | exact (Kd.R_reads' HO222.out).2.2 | (with_reducible refine Kd.C_alloc ?_ _) | (with_reducible refine Kd.C_drewN ?_ _) | (with_reducible refine Kd.C_drew ?_))); (case side2 => exact (Kd.R_reads' HO222.out).2.1); (case side3 => repeat (first | exact (Kd.R_reads' HO225.out).2.2 | (with_reducible refine Kd.C_alloc ?_ _) | (with_reducible refine Kd.C_drewN ?_ _) | (with_reducible refine Kd.C_drew ?_))); (case side4 => exact (Kd.R_reads' HO225.out).2.1); rintro e w' ⟨rfl, ⟨nd, rfl⟩⟩; refine ⟨_, rfl, ?_⟩; obtain ⟨hcz24_0, hcz24_1, hcz24_2, hcz24_3⟩ := cz4_ BK215.out; obtain ⟨hfz24_0, hfz24_1, hfz24_2, hfz24_3⟩ := cf4_ BK215.out) | (go_at_call 33; have chk_ := A4; clear chk_; (refine (diff_Same.calls k (⟨#[99]⟩ : ByteArray) _ _ ([] : List ByteArray) _ _ ([] : List (S95)) _ _ y212 (⟨#[99]⟩ : ByteArray) _ _ ([] : List ByteArray) _ _ ([] : List (S95)) _ _ y212 true _ ?side1 ?side2 ?side3 ?side4 ?side5 ?side6 ?side7 ?side8 ?side9 ?side10 ?side11 ?side12 A4.out).mono ?_); (case side1 => exact Kd.C_nil _ _); (case side2 => exact Nat.le_refl _); (case side3 => exact Kd.C_nil _ _); (case side4 => exact Nat.le_refl _); (case side5 => repeat (first | exact (Kd.R_reads' HO214.out).2.2 | (with_reducible refine Kd.C_alloc ?_ _) | (with_reducible refine Kd.C_drewN ?_ _) | (with_reducible refine Kd.C_drew ?_))); (case side6 => exact (Kd.R_reads' HO214.out).2.1); (case side7 => exact Kd.C_nil _ _); (case side8 => exact Nat.le_refl _); (case side9 => exact Kd.C_nil _ _); (case side10 => exact Nat.le_refl _); (case side11 => repeat (first | exact (Kd.R_reads' HO214.out).2.2 | (with_reducible refine Kd.C_alloc ?_ _) | (with_reducible refine Kd.C_drewN ?_ _) | (with_reducible refine Kd.C_drew ?_))); (case side12 => exact (Kd.R_reads' HO214.out).2.1); rintro e w25 ⟨rfl, hb⟩; have n0_ := Aside0.mk (Kd.R_below (by (with_reducible repeat (first | apply Kd.R_alloc | apply Kd.R_drewN | apply Kd.R_drew)); exact HO214.out) hb); have n1_ := Aside0.mk (Kd.R_below (by (with_reducible repeat (first | apply Kd.R_alloc | apply Kd.R_drewN | apply Kd.R_drew)); exact HO218.out) hb); have n2_ := Aside0.mk (Kd.R_below (by (with_reducible repeat (first | apply Kd.R_alloc | apply Kd.R_drewN | apply Kd.R_drew)); exact HO222.out) hb); have n3_ := Aside0.mk (Kd.R_below (by (with_reducible repeat (first | apply Kd.R_alloc | apply Kd.R_drewN | apply Kd.R_drew)); exact HO225.out) hb); have n4_ := Aside0.mk (blk_below (g := gb215) (o := .cells #[.string (⟨#[99]⟩ : ByteArray), .slice none 0 0, .slice none 0 0, .slice Ao9 y212.length co9] 59 (0, 0)) (grw BK215.out) hb); have n5_ := Aside0.mk (blk_below (g := gb219) (o := .cells #[.string (⟨#[100]⟩ : ByteArray), .slice none 0 0, .slice none 0 0, .slice Ao14 y216.length co14] 59 (0, 0)) (grw BK219.out) hb); have n6_ := Aside0.mk (below_step (by repeat (first | (with_reducible first | exact HB.out | apply below_alloc | apply pw_below_drewN | apply below_drew1 | refine below_set ?_ GE215.out | refine below_set ?_ GE219.out) | exact HB.out)) hb); clear HO214; clear HO218; clear HO222; clear HO225; clear BK215; clear BK219; clear HB; have HO214 := n0_; have HO218 := n1_; have HO222 := n2_; have HO225 := n3_; have BK215 := n4_; have BK219 := n5_; have HB := n6_; clear n0_ n1_ n2_ n3_ n4_ n5_ n6_; (try clear hb); (try clear hb2); (try clear hk); (try clear hi); obtain ⟨hcz26_0, hcz26_1, hcz26_2, hcz26_3⟩ := cz4_ BK215.out; obtain ⟨hfz26_0, hfz26_1, hfz26_2, hfz26_3⟩ := cf4_ BK215.out; obtain ⟨hcz27_0, hcz27_1, hcz27_2, hcz27_3⟩ := cz4_ BK219.out; obtain ⟨hfz27_0, hfz27_1, hfz27_2, hfz27_3⟩ := cf4_ BK219.out; (try clear A4)) | (go_at_call 33; have chk_ := A6; clear chk_; (refine (diff_Same.calls k (⟨#[99]⟩ : ByteArray) _ _ ([] : List ByteArray) _ _ ([] : List (S95)) _ _ y212 (⟨#[100]⟩ : ByteArray) _ _ ([] : List ByteArray) _ _ ([] : List (S95)) _ _ y216 t228 _ ?side1 ?side2 ?side3 ?side4 ?side5 ?side6 ?side7 ?side8 ?side9 ?side10 ?side11 ?side12 A6.out).mono ?_); (case side1 => exact Kd.C_nil _ _); (case side2 => exact Nat.le_refl _); (case side3 => exact Kd.C_nil _ _); (case side4 => exact Nat.le_refl _); (case side5 => repeat (first | exact (Kd.R_reads' HO214.out).2.2 | (with_reducible refine Kd.C_alloc ?_ _) | (with_reducible refine Kd.C_drewN ?_ _) | (with_reducible refine Kd.C_drew ?_))); (case side6 => exact (Kd.R_reads' HO214.out).2.1); (case side7 => exact Kd.C_nil _ _); (case side8 => exact Nat.le_refl _); (case side9 => exact Kd.C_nil _ _); (case side10 => exact Nat.le_refl _); (case side11 => repeat (first | exact (Kd.R_reads' HO218.out).2.2 | (with_reducible refine Kd.C_alloc ?_ _) | (with_reducible refine Kd.C_drewN ?_ _) | (with_reducible refine Kd.C_drew ?_))); (case side12 => exact (Kd.R_reads' HO218.out).2.1); rintro e w28 ⟨rfl, hb⟩; have n0_ := Aside0.mk (Kd.R_below (by (with_reducible repeat (first | apply Kd.R_alloc | apply Kd.R_drewN | apply Kd.R_drew)); exact HO214.out) hb); have n1_ := Aside0.mk (Kd.R_below (by (with_reducible repeat (first | apply Kd.R_alloc | apply Kd.R_drewN | apply Kd.R_drew)); exact HO218.out) hb); have n2_ := Aside0.mk (Kd.R_below (by (with_reducible repeat (first | apply Kd.R_alloc | apply Kd.R_drewN | apply Kd.R_drew)); exact HO222.out) hb); have n3_ := Aside0.mk (Kd.R_below (by (with_reducible repeat (first | apply Kd.R_alloc | apply Kd.R_drewN | apply Kd.R_drew)); exact HO225.out) hb); have n4_ := Aside0.mk (blk_below (g := gb215) (o := .cells #[.string (⟨#[99]⟩ : ByteArray), .slice none 0 0, .slice none 0 0, .slice Ao9 y212.length co9] 59 (0, 0)) (grw BK215.out) hb); have n5_ := Aside0.mk (blk_below (g := gb219) (o := .cells #[.string (⟨#[100]⟩ : ByteArray), .slice none 0 0, .slice none 0 0, .slice Ao14 y216.length co14] 59 (0, 0)) (grw BK219.out) hb); have n6_ := Aside0.mk (below_step (by repeat (first | (with_reducible first | exact HB.out | apply below_alloc | apply pw_below_drewN | apply below_drew1 | refine below_set ?_ GE215.out | refine below_set ?_ GE219.out) | exact HB.out)) hb); clear HO214; clear HO218; clear HO222; clear HO225; clear BK215; clear BK219; clear HB; have HO214 := n0_; have HO218 := n1_; have HO222 := n2_; have HO225 := n3_; have BK215 := n4_; have BK219 := n5_; have HB := n6_; clear n0_ n1_ n2_ n3_ n4_ n5_ n6_; (try clear hb); (try clear hb2); (try clear hk); (try clear hi); (try clear A6)))
 go_ret
 exact ⟨by first | rfl | (simp [errW_none, errW_some] <;> rfl) | (simp [*, errW_none, errW_some] <;> rfl), by repeat (first | (with_reducible first | exact HB.out | apply below_alloc | apply pw_below_drewN | apply below_drew1 | refine below_set ?_ GE215.out | refine below_set ?_ GE219.out) | exact HB.out)⟩
set_option maxRecDepth 100000 in
theorem semblancelaw53_awake.calls (k : Nat)  (r : Bool) (w : World) (h : semblancelaw53_awake.f k  = some r) :
  Calls Try.prog 29 #[] w fun e w' => e = .returned (.bool r) ∧ Below w.heap.size w w' := by
 have hK : semblancelaw53_awake.f 40 = some true := by decide +kernel
 have a_ := at_rounds (g := fun n => semblancelaw53_awake.f n) (fun n => semblancelaw53_awake.mono n) (Nat.le_max_left k 40) h
 have b_ := at_rounds (g := fun n => semblancelaw53_awake.f n) (fun n => semblancelaw53_awake.mono n) (Nat.le_max_right k 40) hK
 exact semblancelaw53_awake.calls0 k r w (Option.some.inj (a_.symm.trans b_)) h

/-! ### semblanceref10_Kids: function 103 -/
def semblanceref10_Kids.l0 : Nat → List (S99) → Int → List Int → Int → Option (List Int)
  | 0, _, _, _, _ => none
  | k + 1, x0, x1, x5, x6 => if x6 < (x0.length : Int) then (if 0 ≤ x6 then (if ((rd_T99 x0 x6).f2) = x1 then (if x5.length < 17592186044416 then (semblanceref10_Kids.l0 k x0 x1 (x5 ++ [x6]) (wrap64 (x6 + 1))) else (none)) else (semblanceref10_Kids.l0 k x0 x1 x5 (wrap64 (x6 + 1)))) else (none)) else (some x5)
def semblanceref10_Kids.f (k : Nat) (l0 : List (S99)) (a1 : Int) : Option (List Int) := semblanceref10_Kids.l0 k l0 a1 (([] : List Int)) 0
theorem semblanceref10_Kids.mono_l : ∀ k, (∀ y0 y1 y2 y3, LeO (semblanceref10_Kids.l0 k y0 y1 y2 y3) (semblanceref10_Kids.l0 (k + 1) y0 y1 y2 y3))
  | 0 => fun _ _ _ _ r h => by simp [semblanceref10_Kids.l0] at h
  | k + 1 => by
    have ih0 := semblanceref10_Kids.mono_l k
    · intro y0 y1 y2 y3
      unfold semblanceref10_Kids.l0
      repeat' first
      | (with_reducible exact ih0 _ _ _ _)
      | (with_reducible exact LeO.refl _)
      | (with_reducible exact LeO.none _)
      | (with_reducible refine LeO.ite ?_ ?_)
      | (with_reducible refine LeO.bind ?_ (fun _ => ?_))
      | exact ih0 _ _ _ _
      | exact LeO.none _
      | refine LeO.ite ?_ ?_
      | refine LeO.bind ?_ (fun _ => ?_)
theorem semblanceref10_Kids.mono : ∀ a0 a1 k, LeO (semblanceref10_Kids.f k a0 a1) (semblanceref10_Kids.f (k + 1) a0 a1) := by
  intro a0 a1 k
  have ih0 := semblanceref10_Kids.mono_l k
  unfold semblanceref10_Kids.f
  repeat' first
      | (with_reducible exact ih0 _ _ _ _)
      | (with_reducible exact LeO.refl _)
      | (with_reducible exact LeO.none _)
      | (with_reducible refine LeO.ite ?_ ?_)
      | (with_reducible refine LeO.bind ?_ (fun _ => ?_))
      | exact ih0 _ _ _ _
      | exact LeO.none _
      | refine LeO.ite ?_ ?_
      | refine LeO.bind ?_ (fun _ => ?_)

/-! ### semblanceref14_item: function 74 -/
mutual
def semblanceref14_item.l0 : Nat → Int → Int → ByteArray → List ByteArray → List (S95) → List (S99) → Option (Bool)
  | 0, _, _, _, _, _, _ => none
  | k + 1, x2, x7, x237000, x237001, x237002, x237003 => if x7 < x2 then (if 0 ≤ x7 then (if x7 < (x237001.length : Int) then (if 0 ≤ x2 then (if x2 < (x237001.length : Int) then (if (rdOf ByteArray.empty x237001 x7).toList = (rdOf ByteArray.empty x237001 x2).toList then (some false) else (semblanceref14_item.l0 k x2 (wrap64 (x7 + 1)) x237000 x237001 x237002 x237003)) else (none)) else (none)) else (none)) else (none)) else (some true)
def semblanceref14_item.l1 : Nat → Int → Int → ByteArray → List ByteArray → List (S95) → List (S99) → Option (Bool)
  | 0, _, _, _, _, _, _ => none
  | k + 1, x2, x8, x237000, x237001, x237002, x237003 => if x8 < x2 then (if 0 ≤ x8 then (if x8 < (x237002.length : Int) then (if 0 ≤ x2 then (if x2 < (x237002.length : Int) then (if ((rd_T95 x237002 x8).f0).toList = ((rd_T95 x237002 x2).f0).toList then (some false) else (semblanceref14_item.l1 k x2 (wrap64 (x8 + 1)) x237000 x237001 x237002 x237003)) else (none)) else (none)) else (none)) else (none)) else (some true)
def semblanceref14_item.l2 : Nat → Int → Int → ByteArray → List ByteArray → List (S95) → List (S99) → Option (Bool)
  | 0, _, _, _, _, _, _ => none
  | k + 1, x2, x10, x237000, x237001, x237002, x237003 => if x10 < x2 then (if 0 ≤ x10 then (if x10 < (x237003.length : Int) then (if 0 ≤ x2 then (if x2 < (x237003.length : Int) then (if ((rd_T99 x237003 x10).f0).toList = ((rd_T99 x237003 x2).f0).toList then (some false) else (semblanceref14_item.l2 k x2 (wrap64 (x10 + 1)) x237000 x237001 x237002 x237003)) else (none)) else (none)) else (none)) else (none)) else (some true)
end
def semblanceref14_item.f (k : Nat) (a0_0 : ByteArray) (l0_1 : List ByteArray) (l0_2 : List (S95)) (l0_3 : List (S99)) (a1 : Int) (a2 : Int) : Option (Bool) := if a1 = 1 then (semblanceref14_item.l0 k a2 0 a0_0 l0_1 l0_2 l0_3) else (if a1 = 2 then (semblanceref14_item.l1 k a2 0 a0_0 l0_1 l0_2 l0_3) else (if a1 = 3 then (if 0 ≤ a2 then (if a2 < (l0_2.length : Int) then (if ((rd_T95 l0_2 a2).f1) ≤ ((rd_T95 l0_2 a2).f3) then (if ((rd_T95 l0_2 a2).f3) ≤ ((rd_T95 l0_2 a2).f2) then (some (decide ((wrap64 (((rd_T95 l0_2 a2).f2) - ((rd_T95 l0_2 a2).f1))) < 64))) else (some false)) else (some false)) else (none)) else (none)) else (if a1 = 4 then (semblanceref14_item.l2 k a2 0 a0_0 l0_1 l0_2 l0_3) else (if a1 = 5 then ((semblanceref10_Kids.f k l0_3 a2).bind fun t245 => (if 0 ≤ a2 then (if a2 < (l0_3.length : Int) then (if ((rd_T99 l0_3 a2).f1) = 1 then (some true) else (some (decide ((t245.length : Int) ≥ (wrap64 (((rd_T99 l0_3 a2).f1) - 1)))))) else (none)) else (none))) else (some true)))))
theorem semblanceref14_item.mono_l : ∀ k, (∀ y0 y1 y2 y3 y4 y5, LeO (semblanceref14_item.l0 k y0 y1 y2 y3 y4 y5) (semblanceref14_item.l0 (k + 1) y0 y1 y2 y3 y4 y5)) ∧ (∀ y0 y1 y2 y3 y4 y5, LeO (semblanceref14_item.l1 k y0 y1 y2 y3 y4 y5) (semblanceref14_item.l1 (k + 1) y0 y1 y2 y3 y4 y5)) ∧ (∀ y0 y1 y2 y3 y4 y5, LeO (semblanceref14_item.l2 k y0 y1 y2 y3 y4 y5) (semblanceref14_item.l2 (k + 1) y0 y1 y2 y3 y4 y5))
  | 0 => ⟨fun _ _ _ _ _ _ r h => by simp [semblanceref14_item.l0] at h, fun _ _ _ _ _ _ r h => by simp [semblanceref14_item.l1] at h, fun _ _ _ _ _ _ r h => by simp [semblanceref14_item.l2] at h⟩
  | k + 1 => by
    obtain ⟨ih0, ih1, ih2⟩ := semblanceref14_item.mono_l k
    refine ⟨?_, ?_, ?_⟩
    · intro y0 y1 y2 y3 y4 y5
      unfold semblanceref14_item.l0
      repeat' first
      | (with_reducible exact ih0 _ _ _ _ _ _)
      | (with_reducible exact ih1 _ _ _ _ _ _)
      | (with_reducible exact ih2 _ _ _ _ _ _)
      | (with_reducible exact semblanceref10_Kids.mono _ _ _)
      | (with_reducible exact LeO.refl _)
      | (with_reducible exact LeO.none _)
      | (with_reducible refine LeO.ite ?_ ?_)
      | (with_reducible refine LeO.bind ?_ (fun _ => ?_))
      | exact ih0 _ _ _ _ _ _
      | exact ih1 _ _ _ _ _ _
      | exact ih2 _ _ _ _ _ _
      | exact semblanceref10_Kids.mono _ _ _
      | exact LeO.none _
      | refine LeO.ite ?_ ?_
      | refine LeO.bind ?_ (fun _ => ?_)
    · intro y0 y1 y2 y3 y4 y5
      unfold semblanceref14_item.l1
      repeat' first
      | (with_reducible exact ih0 _ _ _ _ _ _)
      | (with_reducible exact ih1 _ _ _ _ _ _)
      | (with_reducible exact ih2 _ _ _ _ _ _)
      | (with_reducible exact semblanceref10_Kids.mono _ _ _)
      | (with_reducible exact LeO.refl _)
      | (with_reducible exact LeO.none _)
      | (with_reducible refine LeO.ite ?_ ?_)
      | (with_reducible refine LeO.bind ?_ (fun _ => ?_))
      | exact ih0 _ _ _ _ _ _
      | exact ih1 _ _ _ _ _ _
      | exact ih2 _ _ _ _ _ _
      | exact semblanceref10_Kids.mono _ _ _
      | exact LeO.none _
      | refine LeO.ite ?_ ?_
      | refine LeO.bind ?_ (fun _ => ?_)
    · intro y0 y1 y2 y3 y4 y5
      unfold semblanceref14_item.l2
      repeat' first
      | (with_reducible exact ih0 _ _ _ _ _ _)
      | (with_reducible exact ih1 _ _ _ _ _ _)
      | (with_reducible exact ih2 _ _ _ _ _ _)
      | (with_reducible exact semblanceref10_Kids.mono _ _ _)
      | (with_reducible exact LeO.refl _)
      | (with_reducible exact LeO.none _)
      | (with_reducible refine LeO.ite ?_ ?_)
      | (with_reducible refine LeO.bind ?_ (fun _ => ?_))
      | exact ih0 _ _ _ _ _ _
      | exact ih1 _ _ _ _ _ _
      | exact ih2 _ _ _ _ _ _
      | exact semblanceref10_Kids.mono _ _ _
      | exact LeO.none _
      | refine LeO.ite ?_ ?_
      | refine LeO.bind ?_ (fun _ => ?_)
theorem semblanceref14_item.mono : ∀ a0 a1 a2 a3 a4 a5 k, LeO (semblanceref14_item.f k a0 a1 a2 a3 a4 a5) (semblanceref14_item.f (k + 1) a0 a1 a2 a3 a4 a5) := by
  intro a0 a1 a2 a3 a4 a5 k
  obtain ⟨ih0, ih1, ih2⟩ := semblanceref14_item.mono_l k
  unfold semblanceref14_item.f
  repeat' first
      | (with_reducible exact ih0 _ _ _ _ _ _)
      | (with_reducible exact ih1 _ _ _ _ _ _)
      | (with_reducible exact ih2 _ _ _ _ _ _)
      | (with_reducible exact semblanceref10_Kids.mono _ _ _)
      | (with_reducible exact LeO.refl _)
      | (with_reducible exact LeO.none _)
      | (with_reducible refine LeO.ite ?_ ?_)
      | (with_reducible refine LeO.bind ?_ (fun _ => ?_))
      | exact ih0 _ _ _ _ _ _
      | exact ih1 _ _ _ _ _ _
      | exact ih2 _ _ _ _ _ _
      | exact semblanceref10_Kids.mono _ _ _
      | exact LeO.none _
      | refine LeO.ite ?_ ?_
      | refine LeO.bind ?_ (fun _ => ?_)
theorem hc17_ {w W : World} {a : Addr} {v : Value} (hb : Below w.heap.size w W) (h : w.cell? a = some v) : W.cell? a = some v := (hb.cell (World.block_lt_of_cell? w _ h)).trans h
theorem bz17_ {W W2 w : World} (_ : Below W.heap.size W W2) (h : Below w.heap.size w W) : Below w.heap.size w W := h
set_option maxHeartbeats 8000000 in
set_option maxRecDepth 100000 in
theorem semblanceref14_item.calls (k : Nat) (a0_0 : ByteArray) (A0_1 : Option Addr) (c0_1 : Nat) (l0_1 : List ByteArray) (A0_2 : Option Addr) (c0_2 : Nat) (l0_2 : List (S95)) (A0_3 : Option Addr) (c0_3 : Nat) (l0_3 : List (S99)) (_ : Int) (a2 : Int) (r : Bool) (w : World) (hr0_1 : Kd.C Kd.string w A0_1 l0_1.length l0_1) (hc0_1 : l0_1.length ≤ c0_1) (hr0_2 : Kd.C k95 w A0_2 l0_2.length l0_2) (hc0_2 : l0_2.length ≤ c0_2) (hr0_3 : Kd.C k99 w A0_3 l0_3.length l0_3) (hc0_3 : l0_3.length ≤ c0_3) (h : semblanceref14_item.f k a0_0 l0_1 l0_2 l0_3 (4 : Int) a2 = some r) :
  Calls Try.prog 74 #[.agg #[.string a0_0, .slice A0_1 l0_1.length c0_1, .slice A0_2 l0_2.length c0_2, .slice A0_3 l0_3.length c0_3], .int .i64 (4 : Int), .int .i64 a2] w fun e w' => e = .returned (.bool r) ∧ Below w.heap.size w w' := by
 have hu59 := Try.underlying59
 have hu95 := Try.underlying95
 have HR0_1 := Aside0.mk hr0_1
 have HC0_1 := Aside0.mk hc0_1
 clear hr0_1 hc0_1
 have HR0_2 := Aside0.mk hr0_2
 have HC0_2 := Aside0.mk hc0_2
 clear hr0_2 hc0_2
 have HR0_3 := Aside0.mk hr0_3
 have HC0_3 := Aside0.mk hc0_3
 clear hr0_3 hc0_3
 have HB := Aside0.mk (Below.refl w.heap.size w)
 have H : (if (4 : Int) = 1 then (semblanceref14_item.l0 k a2 0 a0_0 l0_1 l0_2 l0_3) else (if (4 : Int) = 2 then (semblanceref14_item.l1 k a2 0 a0_0 l0_1 l0_2 l0_3) else (if (4 : Int) = 3 then (if 0 ≤ a2 then (if a2 < (l0_2.length : Int) then (if ((rd_T95 l0_2 a2).f1) ≤ ((rd_T95 l0_2 a2).f3) then (if ((rd_T95 l0_2 a2).f3) ≤ ((rd_T95 l0_2 a2).f2) then (some (decide ((wrap64 (((rd_T95 l0_2 a2).f2) - ((rd_T95 l0_2 a2).f1))) < 64))) else (some false)) else (some false)) else (none)) else (none)) else (if (4 : Int) = 4 then (semblanceref14_item.l2 k a2 0 a0_0 l0_1 l0_2 l0_3) else (if (4 : Int) = 5 then ((semblanceref10_Kids.f k l0_3 a2).bind fun t245 => (if 0 ≤ a2 then (if a2 < (l0_3.length : Int) then (if ((rd_T99 l0_3 a2).f1) = 1 then (some true) else (some (decide ((t245.length : Int) ≥ (wrap64 (((rd_T99 l0_3 a2).f1) - 1)))))) else (none)) else (none))) else (some true)))))) = some r := h
 clear h
 have c4 : ¬ ((4 : Int) = 1) := by decide
 rw [if_neg c4] at H
 have c4b0 : ((4 : Int) == 1) = false := beq_eq_false_iff_ne.mpr c4
 have c4b1 : ((4 : Int) != 1) = true := bne_iff_ne.mpr c4
 have c14 : ¬ ((4 : Int) = 2) := by decide
 rw [if_neg c14] at H
 have c14b0 : ((4 : Int) == 2) = false := beq_eq_false_iff_ne.mpr c14
 have c14b1 : ((4 : Int) != 2) = true := bne_iff_ne.mpr c14
 have c24 : ¬ ((4 : Int) = 3) := by decide
 rw [if_neg c24] at H
 have c24b0 : ((4 : Int) == 3) = false := beq_eq_false_iff_ne.mpr c24
 have c24b1 : ((4 : Int) != 3) = true := bne_iff_ne.mpr c24
 have c44 : (4 : Int) = 4 := by decide
 rw [if_pos c44] at H
 have c44b0 : ((4 : Int) == 4) = true := beq_iff_eq.mpr c44
 have c44b1 : ((4 : Int) != 4) = false := bne_eq_false_iff_eq.mpr c44
 clear c44
 have H' := Aside0.mk H
 clear H
 go_enter Try.func74, Try.ntmps74
 go_wp2_with (first | ((with_reducible refine gate_dst (N := 3) rfl ?_); refine box_event ?hg (N := 3) ?hd (cs := #[.string a0_0, .slice A0_1 l0_1.length c0_1, .slice A0_2 l0_2.length c0_2, .slice A0_3 l0_3.length c0_3]) (t := 59) ?hr ?_; (case hd => rfl); (case hg => rfl); (case hr => first | (go_simp; done) | (go_simp; rfl)); intro gb236 hg w45 hbox hb; have hB_ := bz17_ hb (brw HB.out); have n0_ := Aside0.mk (below_step hB_ hb); have n1_ := Aside0.mk (hbox); have n2_ := Aside0.mk ((by rw [hg]; exact (below_size hB_) : w.heap.size ≤ gb236)); have n3_ := Aside0.mk ((by rw [hg]; exact (below_size hB_) : w.heap.size ≤ gb236)); clear HB; have HB := n0_; have BK236 := n1_; have GW236 := n2_; have GE236 := n3_; clear n0_ n1_ n2_ n3_; clear hb hbox hg))
 repeat (go_quiet (first | ((with_reducible refine gate_dst (N := 3) rfl ?_); refine box_event ?hg (N := 3) ?hd (cs := #[.string a0_0, .slice A0_1 l0_1.length c0_1, .slice A0_2 l0_2.length c0_2, .slice A0_3 l0_3.length c0_3]) (t := 59) ?hr ?_; (case hd => rfl); (case hg => rfl); (case hr => first | (go_simp; done) | (go_simp; rfl)); intro gb236 hg w45 hbox hb; have hB_ := bz17_ hb (brw HB.out); have n0_ := Aside0.mk (below_step hB_ hb); have n1_ := Aside0.mk (hbox); have n2_ := Aside0.mk ((by rw [hg]; exact (below_size hB_) : w.heap.size ≤ gb236)); have n3_ := Aside0.mk ((by rw [hg]; exact (below_size hB_) : w.heap.size ≤ gb236)); clear HB; have HB := n0_; have BK236 := n1_; have GW236 := n2_; have GE236 := n3_; clear n0_ n1_ n2_ n3_; clear hb hbox hg)); try go_wp2_with (first | ((with_reducible refine gate_dst (N := 3) rfl ?_); refine box_event ?hg (N := 3) ?hd (cs := #[.string a0_0, .slice A0_1 l0_1.length c0_1, .slice A0_2 l0_2.length c0_2, .slice A0_3 l0_3.length c0_3]) (t := 59) ?hr ?_; (case hd => rfl); (case hg => rfl); (case hr => first | (go_simp; done) | (go_simp; rfl)); intro gb236 hg w45 hbox hb; have hB_ := bz17_ hb (brw HB.out); have n0_ := Aside0.mk (below_step hB_ hb); have n1_ := Aside0.mk (hbox); have n2_ := Aside0.mk ((by rw [hg]; exact (below_size hB_) : w.heap.size ≤ gb236)); have n3_ := Aside0.mk ((by rw [hg]; exact (below_size hB_) : w.heap.size ≤ gb236)); clear HB; have HB := n0_; have BK236 := n1_; have GW236 := n2_; have GE236 := n3_; clear n0_ n1_ n2_ n3_; clear hb hbox hg)))
 go_loopg [10] k (fun kq v10 w' => ∃ (x10_1 : Int), v10 = .int .i64 x10_1 ∧ Aside0 (semblanceref14_item.l2 kq a2 x10_1 a0_0 l0_1 l0_2 l0_3 = some r) ∧ Aside0 (kq ≤ k) ∧ Aside0 (w'.heap[gb236]? = some (.cells #[.string a0_0, (.slice A0_1 l0_1.length c0_1), (.slice A0_2 l0_2.length c0_2), (.slice A0_3 l0_3.length c0_3)] 59 (0, 0))) ∧ Aside0 (Below w.heap.size w w'))
 case atStart => exact ⟨(0), (by first | rfl | (simp; done) | (simp [*]; done)), H', ⟨Nat.le_refl _⟩, ⟨grw BK236.out⟩, ⟨by repeat (first | (with_reducible first | exact HB.out | apply below_alloc | apply pw_below_drewN | apply below_drew1 | refine below_set ?_ GE236.out) | exact HB.out)⟩⟩
 case round =>
  clear H'
  try clear c1
  try clear c2
  try clear p2
  try clear q2
  try clear hx2
  try clear c3
  try clear c4
  try clear c4b0
  try clear c4b1
  try clear c6
  try clear c6b0
  try clear p6
  try clear c7
  try clear c7b0
  try clear c8
  try clear c8b0
  try clear c9
  try clear c9b0
  try clear c10
  try clear c10b0
  try clear c11
  try clear c11b0
  try clear c11b1
  try clear c14
  try clear c14b0
  try clear c14b1
  try clear c16
  try clear c16b0
  try clear c17
  try clear c17b0
  try clear c18
  try clear c18b0
  try clear c19
  try clear c19b0
  try clear c20
  try clear c20b0
  try clear c21
  try clear c21b0
  try clear c21b1
  try clear p23
  try clear q23
  try clear hx23
  try clear c24
  try clear c24b0
  try clear c24b1
  try clear p24
  try clear q24
  try clear hx24
  try clear c25
  try clear c25b0
  try clear c26
  try clear c26b0
  try clear c27
  try clear c27b0
  try clear c28
  try clear c28b0
  try clear c32
  try clear c37
  try clear c42
  try clear c44
  try clear c44b0
  try clear c44b1
  try clear hcz12_0 hcz12_1 hcz12_2 hcz12_3
  try clear hcz13_0 hcz13_1 hcz13_2 hcz13_3
  try clear hcz22_0 hcz22_1 hcz22_2 hcz22_3
  try clear hcz23_0 hcz23_1 hcz23_2 hcz23_3
  try clear hcz30_0 hcz30_1 hcz30_2 hcz30_3
  try clear hcz33_0 hcz33_1 hcz33_2 hcz33_3
  try clear hcz35_0 hcz35_1 hcz35_2 hcz35_3
  try clear hcz38_0 hcz38_1 hcz38_2 hcz38_3
  try clear hcz40_0 hcz40_1 hcz40_2 hcz40_3
  try clear hcz43_0 hcz43_1 hcz43_2 hcz43_3
  try clear hfz12_0 hfz12_1 hfz12_2 hfz12_3
  try clear hfz13_0 hfz13_1 hfz13_2 hfz13_3
  try clear hfz22_0 hfz22_1 hfz22_2 hfz22_3
  try clear hfz23_0 hfz23_1 hfz23_2 hfz23_3
  try clear hfz30_0 hfz30_1 hfz30_2 hfz30_3
  try clear hfz33_0 hfz33_1 hfz33_2 hfz33_3
  try clear hfz35_0 hfz35_1 hfz35_2 hfz35_3
  try clear hfz38_0 hfz38_1 hfz38_2 hfz38_3
  try clear hfz40_0 hfz40_1 hfz40_2 hfz40_3
  try clear hfz43_0 hfz43_1 hfz43_2 hfz43_3
  try clear hx237_0
  try clear hx238_0
  try clear hx239_0
  try clear hx239_1
  try clear hx239_2
  try clear hx239_3
  try clear hx240_0
  try clear hx240_1
  try clear hx240_2
  try clear hx240_3
  try clear hx241_0
  try clear hx241_1
  try clear hx241_2
  try clear hx241_3
  try clear p2
  try clear p237
  try clear p238
  try clear p239
  try clear p240
  try clear p241
  try clear p6
  try clear q2
  try clear q237
  try clear q238
  try clear q239
  try clear q240
  try clear q241
  obtain ⟨x10_1, rfl, HA, HK1, BK236, HB⟩ := hrel
  cases gk with
  | zero => exact absurd HA.out (by simp [semblanceref14_item.l2])
  | succ k1 =>
   have H := HA.out
   clear HA
   simp only [semblanceref14_item.l2] at H
   by_cases c46 : x10_1 < a2
   rotate_left
   ·rw [if_neg c46] at H
    have c46b0 : decide (x10_1 < a2) = false := decide_eq_false c46
    clear c46
    obtain rfl := Option.some.inj H
    go_wp2
    repeat (go_quiet (fail); try go_wp2)
    go_ret
    exact ⟨by first | rfl | (simp [errW_none, errW_some] <;> rfl) | (simp [*, errW_none, errW_some] <;> rfl), by repeat (first | (with_reducible first | exact HB.out | apply below_alloc | apply pw_below_drewN | apply below_drew1 | refine below_set ?_ GE236.out) | exact HB.out)⟩
   rw [if_pos c46] at H
   have c46b0 : decide (x10_1 < a2) = true := decide_eq_true c46
   clear c46
   by_cases c47 : 0 ≤ x10_1
   rotate_left
   ·rw [if_neg c47] at H
    exact absurd H (by simp)
   rw [if_pos c47] at H
   have c47b0 : decide (0 ≤ x10_1) = true := decide_eq_true c47
   clear c47
   by_cases c48 : x10_1 < (l0_3.length : Int)
   rotate_left
   ·rw [if_neg c48] at H
    exact absurd H (by simp)
   rw [if_pos c48] at H
   have c48b0 : decide (x10_1 < (l0_3.length : Int)) = true := decide_eq_true c48
   clear c48
   by_cases c49 : 0 ≤ a2
   rotate_left
   ·rw [if_neg c49] at H
    exact absurd H (by simp)
   rw [if_pos c49] at H
   have c49b0 : decide (0 ≤ a2) = true := decide_eq_true c49
   clear c49
   by_cases c50 : a2 < (l0_3.length : Int)
   rotate_left
   ·rw [if_neg c50] at H
    exact absurd H (by simp)
   rw [if_pos c50] at H
   have c50b0 : decide (a2 < (l0_3.length : Int)) = true := decide_eq_true c50
   clear c50
   have HZ_ := Aside0.mk H
   clear H
   obtain ⟨hcz52_0, hcz52_1, hcz52_2, hcz52_3⟩ := cz4_ BK236.out
   obtain ⟨hfz52_0, hfz52_1, hfz52_2, hfz52_3⟩ := cf4_ BK236.out
   have p243 : 0 ≤ (x10_1 : Int) := of_decide_eq_true (by first | (with_reducible assumption) | assumption)
   have q243 : x10_1 < (l0_3.length : Int) := of_decide_eq_true (by first | (with_reducible assumption) | assumption)
   obtain ⟨ad243, A243_3, c243_3, A243_4, c243_4, A243_5, c243_5, e243, hx243_0, hx243_1, hx243_2, hx243_3, hx243_4, hx243_5, hl243_3, hi243_3, hl243_4, hi243_4, hl243_5, hi243_5⟩ := at_T99 HR0_3.out x10_1 p243 q243
   cases e243
   replace hx243_0 := hc17_ HB.out hx243_0
   replace hx243_1 := hc17_ HB.out hx243_1
   replace hx243_2 := hc17_ HB.out hx243_2
   replace hx243_3 := hc17_ HB.out hx243_3
   replace hx243_4 := hc17_ HB.out hx243_4
   replace hx243_5 := hc17_ HB.out hx243_5
   have HR243_3 := Aside0.mk hi243_3
   have HC243_3 := Aside0.mk hl243_3
   clear hi243_3 hl243_3
   have HR243_4 := Aside0.mk hi243_4
   have HC243_4 := Aside0.mk hl243_4
   clear hi243_4 hl243_4
   have HR243_5 := Aside0.mk hi243_5
   have HC243_5 := Aside0.mk hl243_5
   clear hi243_5 hl243_5
   replace p243 := eq_true p243
   replace q243 := eq_true q243
   have p244 : 0 ≤ (a2 : Int) := of_decide_eq_true (by first | (with_reducible assumption) | assumption)
   have q244 : a2 < (l0_3.length : Int) := of_decide_eq_true (by first | (with_reducible assumption) | assumption)
   obtain ⟨ad244, A244_3, c244_3, A244_4, c244_4, A244_5, c244_5, e244, hx244_0, hx244_1, hx244_2, hx244_3, hx244_4, hx244_5, hl244_3, hi244_3, hl244_4, hi244_4, hl244_5, hi244_5⟩ := at_T99 HR0_3.out a2 p244 q244
   obtain rfl : ad243 = ad244 := (by injection e244)
   replace hx244_0 := hc17_ HB.out hx244_0
   replace hx244_1 := hc17_ HB.out hx244_1
   replace hx244_2 := hc17_ HB.out hx244_2
   replace hx244_3 := hc17_ HB.out hx244_3
   replace hx244_4 := hc17_ HB.out hx244_4
   replace hx244_5 := hc17_ HB.out hx244_5
   have HR244_3 := Aside0.mk hi244_3
   have HC244_3 := Aside0.mk hl244_3
   clear hi244_3 hl244_3
   have HR244_4 := Aside0.mk hi244_4
   have HC244_4 := Aside0.mk hl244_4
   clear hi244_4 hl244_4
   have HR244_5 := Aside0.mk hi244_5
   have HC244_5 := Aside0.mk hl244_5
   clear hi244_5 hl244_5
   replace p244 := eq_true p244
   replace q244 := eq_true q244
   have H := HZ_.out
   clear HZ_
   by_cases c51 : ((rd_T99 l0_3 x10_1).f0).toList = ((rd_T99 l0_3 a2).f0).toList
   ·rw [if_pos c51] at H
    have c51b0 : (((rd_T99 l0_3 x10_1).f0).toList == ((rd_T99 l0_3 a2).f0).toList) = true := beq_iff_eq.mpr c51
    have c51b1 : (((rd_T99 l0_3 x10_1).f0).toList != ((rd_T99 l0_3 a2).f0).toList) = false := bne_eq_false_iff_eq.mpr c51
    clear c51
    obtain rfl := Option.some.inj H
    go_wp2
    repeat (go_quiet (fail); try go_wp2)
    go_ret
    exact ⟨by first | rfl | (simp [errW_none, errW_some] <;> rfl) | (simp [*, errW_none, errW_some] <;> rfl), by repeat (first | (with_reducible first | exact HB.out | apply below_alloc | apply pw_below_drewN | apply below_drew1 | refine below_set ?_ GE236.out) | exact HB.out)⟩
   rw [if_neg c51] at H
   have c51b0 : (((rd_T99 l0_3 x10_1).f0).toList == ((rd_T99 l0_3 a2).f0).toList) = false := beq_eq_false_iff_ne.mpr c51
   have c51b1 : (((rd_T99 l0_3 x10_1).f0).toList != ((rd_T99 l0_3 a2).f0).toList) = true := bne_iff_ne.mpr c51
   have H' := Aside0.mk H
   clear H
   go_wp2
   repeat (go_quiet (fail); try go_wp2)
   go_roundg k1
   case measure => have := HK1.out; omega
   case rel => exact ⟨(wrap64 (x10_1 + 1)), (by first | rfl | (simp; done) | (simp [*]; done)), H', ⟨by have := HK1.out; omega⟩, ⟨grw BK236.out⟩, ⟨by repeat (first | (with_reducible first | exact HB.out | apply below_alloc | apply pw_below_drewN | apply below_drew1 | refine below_set ?_ GE236.out) | exact HB.out)⟩⟩
/-! ### semblanceref14_HasVar: function 104 -/
def semblanceref14_HasVar.l0 : Nat → ByteArray → Int → ByteArray → List ByteArray → List (S95) → List (S99) → Option (Bool)
  | 0, _, _, _, _, _, _ => none
  | k + 1, x1, x5, x251000, x251001, x251002, x251003 => if x5 < (x251002.length : Int) then (if 0 ≤ x5 then (if ((rd_T95 x251002 x5).f0).toList = x1.toList then (some true) else (semblanceref14_HasVar.l0 k x1 (wrap64 (x5 + 1)) x251000 x251001 x251002 x251003)) else (none)) else (some false)
def semblanceref14_HasVar.f (k : Nat) (a0_0 : ByteArray) (l0_1 : List ByteArray) (l0_2 : List (S95)) (l0_3 : List (S99)) (a1 : ByteArray) : Option (Bool) := semblanceref14_HasVar.l0 k a1 0 a0_0 l0_1 l0_2 l0_3
theorem semblanceref14_HasVar.mono_l : ∀ k, (∀ y0 y1 y2 y3 y4 y5, LeO (semblanceref14_HasVar.l0 k y0 y1 y2 y3 y4 y5) (semblanceref14_HasVar.l0 (k + 1) y0 y1 y2 y3 y4 y5))
  | 0 => fun _ _ _ _ _ _ r h => by simp [semblanceref14_HasVar.l0] at h
  | k + 1 => by
    have ih0 := semblanceref14_HasVar.mono_l k
    · intro y0 y1 y2 y3 y4 y5
      unfold semblanceref14_HasVar.l0
      repeat' first
      | (with_reducible exact ih0 _ _ _ _ _ _)
      | (with_reducible exact LeO.refl _)
      | (with_reducible exact LeO.none _)
      | (with_reducible refine LeO.ite ?_ ?_)
      | (with_reducible refine LeO.bind ?_ (fun _ => ?_))
      | exact ih0 _ _ _ _ _ _
      | exact LeO.none _
      | refine LeO.ite ?_ ?_
      | refine LeO.bind ?_ (fun _ => ?_)
theorem semblanceref14_HasVar.mono : ∀ a0 a1 a2 a3 a4 k, LeO (semblanceref14_HasVar.f k a0 a1 a2 a3 a4) (semblanceref14_HasVar.f (k + 1) a0 a1 a2 a3 a4) := by
  intro a0 a1 a2 a3 a4 k
  have ih0 := semblanceref14_HasVar.mono_l k
  unfold semblanceref14_HasVar.f
  repeat' first
      | (with_reducible exact ih0 _ _ _ _ _ _)
      | (with_reducible exact LeO.refl _)
      | (with_reducible exact LeO.none _)
      | (with_reducible refine LeO.ite ?_ ?_)
      | (with_reducible refine LeO.bind ?_ (fun _ => ?_))
      | exact ih0 _ _ _ _ _ _
      | exact LeO.none _
      | refine LeO.ite ?_ ?_
      | refine LeO.bind ?_ (fun _ => ?_)

/-! ### semblanceref05_Arity: function 42 -/
def semblanceref05_Arity.f (a0 : Int) : Option (Int) := if a0 < 1 then (some (-1)) else (if a0 > 20 then (some (-1)) else ((some (([0, 0, 0, 1, 2, 2, 2, 2, 2, 0, 0, 0, 1, 2, 2, 2, 2, 2, 2, 2, 2] : List Int) : List Int)).bind fun y252 => (if 0 ≤ a0 then (if a0 < (y252.length : Int) then (some (rd y252 a0)) else (none)) else (none))))

/-! ### semblanceref05_End: function 40 -/
mutual
def semblanceref05_End.j0 : Nat → List (S117) → Int → Bool → Option (Int)
  | 0, _, _, _ => none
  | k + 1, x0, x1, x23 => if x23 = true then (some (-1)) else (semblanceref05_End.l0 k x0 x1 (wrap64 (x1 + 1)) 0)
def semblanceref05_End.l0 : Nat → List (S117) → Int → Int → Int → Option (Int)
  | 0, _, _, _, _ => none
  | k + 1, x0, x1, x5, x6 => if 0 ≤ x1 then (if x1 < (x0.length : Int) then ((semblanceref05_Arity.f ((rd_T117 x0 x1).f0)).bind fun t259 => (if x6 < t259 then ((semblanceref05_End.f k x0 x5).bind fun t260 => (if t260 < 0 then (some (-1)) else (semblanceref05_End.l0 k x0 x1 t260 (wrap64 (x6 + 1))))) else (some x5))) else (none)) else (none)
def semblanceref05_End.f : Nat → List (S117) → Int → Option (Int)
  | 0, _, _ => none
  | k + 1, l0, a1 => if a1 < 0 then (semblanceref05_End.j0 k l0 a1 true) else (if a1 ≥ (l0.length : Int) then (semblanceref05_End.j0 k l0 a1 true) else (if 0 ≤ a1 then (if a1 < (l0.length : Int) then ((semblanceref05_Arity.f ((rd_T117 l0 a1).f0)).bind fun t257 => (semblanceref05_End.j0 k l0 a1 (decide (t257 < 0)))) else (none)) else (none)))
end
theorem semblanceref05_End.mono_l : ∀ k, (∀ y0 y1, LeO (semblanceref05_End.f k y0 y1) (semblanceref05_End.f (k + 1) y0 y1)) ∧ (∀ y0 y1 y2, LeO (semblanceref05_End.j0 k y0 y1 y2) (semblanceref05_End.j0 (k + 1) y0 y1 y2)) ∧ (∀ y0 y1 y2 y3, LeO (semblanceref05_End.l0 k y0 y1 y2 y3) (semblanceref05_End.l0 (k + 1) y0 y1 y2 y3))
  | 0 => ⟨fun _ _ r h => by simp [semblanceref05_End.f] at h, fun _ _ _ r h => by simp [semblanceref05_End.j0] at h, fun _ _ _ _ r h => by simp [semblanceref05_End.l0] at h⟩
  | k + 1 => by
    obtain ⟨ih0, ih1, ih2⟩ := semblanceref05_End.mono_l k
    refine ⟨?_, ?_, ?_⟩
    · intro y0 y1
      unfold semblanceref05_End.f
      repeat' first
      | (with_reducible exact ih0 _ _)
      | (with_reducible exact ih1 _ _ _)
      | (with_reducible exact ih2 _ _ _ _)
      | (with_reducible exact LeO.refl _)
      | (with_reducible exact LeO.none _)
      | (with_reducible refine LeO.ite ?_ ?_)
      | (with_reducible refine LeO.bind ?_ (fun _ => ?_))
      | exact ih0 _ _
      | exact ih1 _ _ _
      | exact ih2 _ _ _ _
      | exact LeO.none _
      | refine LeO.ite ?_ ?_
      | refine LeO.bind ?_ (fun _ => ?_)
    · intro y0 y1 y2
      unfold semblanceref05_End.j0
      repeat' first
      | (with_reducible exact ih0 _ _)
      | (with_reducible exact ih1 _ _ _)
      | (with_reducible exact ih2 _ _ _ _)
      | (with_reducible exact LeO.refl _)
      | (with_reducible exact LeO.none _)
      | (with_reducible refine LeO.ite ?_ ?_)
      | (with_reducible refine LeO.bind ?_ (fun _ => ?_))
      | exact ih0 _ _
      | exact ih1 _ _ _
      | exact ih2 _ _ _ _
      | exact LeO.none _
      | refine LeO.ite ?_ ?_
      | refine LeO.bind ?_ (fun _ => ?_)
    · intro y0 y1 y2 y3
      unfold semblanceref05_End.l0
      repeat' first
      | (with_reducible exact ih0 _ _)
      | (with_reducible exact ih1 _ _ _)
      | (with_reducible exact ih2 _ _ _ _)
      | (with_reducible exact LeO.refl _)
      | (with_reducible exact LeO.none _)
      | (with_reducible refine LeO.ite ?_ ?_)
      | (with_reducible refine LeO.bind ?_ (fun _ => ?_))
      | exact ih0 _ _
      | exact ih1 _ _ _
      | exact ih2 _ _ _ _
      | exact LeO.none _
      | refine LeO.ite ?_ ?_
      | refine LeO.bind ?_ (fun _ => ?_)
theorem semblanceref05_End.mono : ∀ a0 a1 k, LeO (semblanceref05_End.f k a0 a1) (semblanceref05_End.f (k + 1) a0 a1) := by
  intro a0 a1 k
  obtain ⟨ih0, ih1, ih2⟩ := semblanceref05_End.mono_l k
  exact ih0 a0 a1

/-! ### semblanceref05_Below: function 44 -/
def semblanceref05_Below.l0 : Nat → List (S117) → Int → List Int → Int → Int → Option (List Int)
  | 0, _, _, _, _, _ => none
  | k + 1, x0, x1, x5, x6, x7 => if 0 ≤ x1 then (if x1 < (x0.length : Int) then ((semblanceref05_Arity.f ((rd_T117 x0 x1).f0)).bind fun t265 => (if x7 < t265 then (if x5.length < 17592186044416 then ((semblanceref05_End.f k x0 x6).bind fun t269 => (semblanceref05_Below.l0 k x0 x1 (x5 ++ [x6]) t269 (wrap64 (x7 + 1)))) else (none)) else (some x5))) else (none)) else (none)
def semblanceref05_Below.f (k : Nat) (l0 : List (S117)) (a1 : Int) : Option (List Int) := semblanceref05_Below.l0 k l0 a1 (([] : List Int)) (wrap64 (a1 + 1)) 0
theorem semblanceref05_Below.mono_l : ∀ k, (∀ y0 y1 y2 y3 y4, LeO (semblanceref05_Below.l0 k y0 y1 y2 y3 y4) (semblanceref05_Below.l0 (k + 1) y0 y1 y2 y3 y4))
  | 0 => fun _ _ _ _ _ r h => by simp [semblanceref05_Below.l0] at h
  | k + 1 => by
    have ih0 := semblanceref05_Below.mono_l k
    · intro y0 y1 y2 y3 y4
      unfold semblanceref05_Below.l0
      repeat' first
      | (with_reducible exact ih0 _ _ _ _ _)
      | (with_reducible exact semblanceref05_End.mono _ _ _)
      | (with_reducible exact LeO.refl _)
      | (with_reducible exact LeO.none _)
      | (with_reducible refine LeO.ite ?_ ?_)
      | (with_reducible refine LeO.bind ?_ (fun _ => ?_))
      | exact ih0 _ _ _ _ _
      | exact semblanceref05_End.mono _ _ _
      | exact LeO.none _
      | refine LeO.ite ?_ ?_
      | refine LeO.bind ?_ (fun _ => ?_)
theorem semblanceref05_Below.mono : ∀ a0 a1 k, LeO (semblanceref05_Below.f k a0 a1) (semblanceref05_Below.f (k + 1) a0 a1) := by
  intro a0 a1 k
  have ih0 := semblanceref05_Below.mono_l k
  unfold semblanceref05_Below.f
  repeat' first
      | (with_reducible exact ih0 _ _ _ _ _)
      | (with_reducible exact semblanceref05_End.mono _ _ _)
      | (with_reducible exact LeO.refl _)
      | (with_reducible exact LeO.none _)
      | (with_reducible refine LeO.ite ?_ ?_)
      | (with_reducible refine LeO.bind ?_ (fun _ => ?_))
      | exact ih0 _ _ _ _ _
      | exact semblanceref05_End.mono _ _ _
      | exact LeO.none _
      | refine LeO.ite ?_ ?_
      | refine LeO.bind ?_ (fun _ => ?_)

end Go.Proofs.Ytjlegibfeenglaa.XE
