-- written by wip/xprint.py out of the translation
import Derived.Test.YtjlegibfeenglaaXFp0
import Derived.Test.YtjlegibfeenglaaXFp2
import Derived.Test.YtjlegibfeenglaaXFp9
namespace Go.Proofs.Ytjlegibfeenglaa.XF
open Go.Proofs.Ytjlegibfeenglaa.XGrow Go.RowKit Go.Proofs.YtjlegibfeenglaaW.PrintWords Go.Proofs.YtjlegibfeenglaaW.PrintLast Go.Proofs.YtjlegibfeenglaaW.PrintMore
attribute [local go_sem] max2_int min2_int max_two min_two max_three min_three max_four min_four   -- for this text's walks alone
set_option linter.unusedVariables false
set_option linter.unusedSimpArgs false

attribute [local go_sem high] eqA117
/-! ### diff_Same: function 33 -/
def diff_Same.f (k : Nat) (a0_0 : ByteArray) (l0_1 : List ByteArray) (l0_2 : List (S95)) (l0_3 : List (S99)) (a1_0 : ByteArray) (l1_1 : List ByteArray) (l1_2 : List (S95)) (l1_3 : List (S99)) : Option (Bool) := (diff_Lines.f k a0_0 l0_1 l0_2 l0_3 a1_0 l1_1 l1_2 l1_3).bind fun t209 => (some ((t209.length : Int) == 0))
theorem diff_Same.mono : ∀ a0 a1 a2 a3 a4 a5 a6 a7 k, LeO (diff_Same.f k a0 a1 a2 a3 a4 a5 a6 a7) (diff_Same.f (k + 1) a0 a1 a2 a3 a4 a5 a6 a7) := by
  intro a0 a1 a2 a3 a4 a5 a6 a7 k
  unfold diff_Same.f
  repeat' first
      | (with_reducible exact diff_Lines.mono _ _ _ _ _ _ _ _ _)
      | (with_reducible exact LeO.refl _)
      | (with_reducible exact LeO.none _)
      | (with_reducible refine LeO.ite ?_ ?_)
      | (with_reducible refine LeO.bind ?_ (fun _ => ?_))
      | exact diff_Lines.mono _ _ _ _ _ _ _ _ _
      | exact LeO.none _
      | refine LeO.ite ?_ ?_
      | refine LeO.bind ?_ (fun _ => ?_)
theorem bz15_ {W W2 w : World} (_ : Below W.heap.size W W2) (h : Below w.heap.size w W) : Below w.heap.size w W := h
set_option maxHeartbeats 8000000 in
set_option maxRecDepth 100000 in
theorem diff_Same.calls (k : Nat) (a0_0 : ByteArray) (A0_1 : Option Addr) (c0_1 : Nat) (l0_1 : List ByteArray) (A0_2 : Option Addr) (c0_2 : Nat) (l0_2 : List (S95)) (A0_3 : Option Addr) (c0_3 : Nat) (l0_3 : List (S99)) (a1_0 : ByteArray) (A1_1 : Option Addr) (c1_1 : Nat) (l1_1 : List ByteArray) (A1_2 : Option Addr) (c1_2 : Nat) (l1_2 : List (S95)) (A1_3 : Option Addr) (c1_3 : Nat) (l1_3 : List (S99)) (r : Bool) (w : World) (hr0_1 : Kd.C Kd.string w A0_1 l0_1.length l0_1) (hc0_1 : l0_1.length ≤ c0_1) (hr0_2 : Kd.C k95 w A0_2 l0_2.length l0_2) (hc0_2 : l0_2.length ≤ c0_2) (hr0_3 : Kd.C k99 w A0_3 l0_3.length l0_3) (hc0_3 : l0_3.length ≤ c0_3) (hr1_1 : Kd.C Kd.string w A1_1 l1_1.length l1_1) (hc1_1 : l1_1.length ≤ c1_1) (hr1_2 : Kd.C k95 w A1_2 l1_2.length l1_2) (hc1_2 : l1_2.length ≤ c1_2) (hr1_3 : Kd.C k99 w A1_3 l1_3.length l1_3) (hc1_3 : l1_3.length ≤ c1_3) (h : diff_Same.f k a0_0 l0_1 l0_2 l0_3 a1_0 l1_1 l1_2 l1_3 = some r) :
  Calls Try.prog 33 #[.agg #[.string a0_0, .slice A0_1 l0_1.length c0_1, .slice A0_2 l0_2.length c0_2, .slice A0_3 l0_3.length c0_3], .agg #[.string a1_0, .slice A1_1 l1_1.length c1_1, .slice A1_2 l1_2.length c1_2, .slice A1_3 l1_3.length c1_3]] w fun e w' => e = .returned (.bool r) ∧ Below w.heap.size w w' := by
 have hu59 := Try.underlying59
 have HR0_1 := Aside0.mk hr0_1
 have HC0_1 := Aside0.mk hc0_1
 clear hr0_1 hc0_1
 have HR0_2 := Aside0.mk hr0_2
 have HC0_2 := Aside0.mk hc0_2
 clear hr0_2 hc0_2
 have HR0_3 := Aside0.mk hr0_3
 have HC0_3 := Aside0.mk hc0_3
 clear hr0_3 hc0_3
 have HR1_1 := Aside0.mk hr1_1
 have HC1_1 := Aside0.mk hc1_1
 clear hr1_1 hc1_1
 have HR1_2 := Aside0.mk hr1_2
 have HC1_2 := Aside0.mk hc1_2
 clear hr1_2 hc1_2
 have HR1_3 := Aside0.mk hr1_3
 have HC1_3 := Aside0.mk hc1_3
 clear hr1_3 hc1_3
 have HB := Aside0.mk (Below.refl w.heap.size w)
 have H : ((diff_Lines.f k a0_0 l0_1 l0_2 l0_3 a1_0 l1_1 l1_2 l1_3).bind fun t209 => (some ((t209.length : Int) == 0))) = some r := h
 clear h
 replace H := Option.bind_eq_some_iff.mp H
 obtain ⟨t209, A30, H⟩ := H
 replace H : (some ((t209.length : Int) == 0)) = some r := H
 have A3 := Aside0.mk A30
 clear A30
 obtain rfl := Option.some.inj H
 go_enter Try.func33, Try.ntmps33
 go_wp2_with (first | ((with_reducible refine gate_dst (N := 2) rfl ?_); refine box_event ?hg (N := 2) ?hd (cs := #[.string a0_0, .slice A0_1 l0_1.length c0_1, .slice A0_2 l0_2.length c0_2, .slice A0_3 l0_3.length c0_3]) (t := 59) ?hr ?_; (case hd => rfl); (case hg => rfl); (case hr => first | (go_simp; done) | (go_simp; rfl)); intro gb207 hg w4 hbox hb; have hB_ := bz15_ hb (brw HB.out); have n0_ := Aside0.mk (below_step hB_ hb); have n1_ := Aside0.mk (hbox); have n2_ := Aside0.mk ((by rw [hg]; exact (below_size hB_) : w.heap.size ≤ gb207)); have n3_ := Aside0.mk ((by rw [hg]; exact (below_size hB_) : w.heap.size ≤ gb207)); clear HB; have HB := n0_; have BK207 := n1_; have GW207 := n2_; have GE207 := n3_; clear n0_ n1_ n2_ n3_; clear hb hbox hg) | ((with_reducible refine gate_dst (N := 3) rfl ?_); refine box_event ?hg (N := 3) ?hd (cs := #[.string a1_0, .slice A1_1 l1_1.length c1_1, .slice A1_2 l1_2.length c1_2, .slice A1_3 l1_3.length c1_3]) (t := 59) ?hr ?_; (case hd => rfl); (case hg => rfl); (case hr => first | (go_simp; done) | (go_simp; rfl)); intro gb208 hg w5 hbox hb; have hB_ := bz15_ hb (by repeat (first | (with_reducible first | exact HB.out | apply below_alloc | apply pw_below_drewN | apply below_drew1 | refine below_set ?_ GE207.out) | exact HB.out)); have n0_ := Aside0.mk (blk_below (grw BK207.out) hb); have n1_ := Aside0.mk (below_step hB_ hb); have n2_ := Aside0.mk (hbox); have n3_ := Aside0.mk ((by rw [hg]; exact (below_size hB_) : w.heap.size ≤ gb208)); have n4_ := Aside0.mk ((by rw [hg]; exact (below_size hB_) : w.heap.size ≤ gb208)); have n5_ := Aside0.mk ((by rw [hg]; exact Nat.ne_of_lt (blk_lt (grw BK207.out)) : gb207 ≠ gb208)); have n6_ := Aside0.mk ((by rw [hg]; exact Nat.ne_of_gt (blk_lt (grw BK207.out)) : gb208 ≠ gb207)); clear BK207; clear HB; have BK207 := n0_; have HB := n1_; have BK208 := n2_; have GW208 := n3_; have GE208 := n4_; have NB207_208 := n5_; have NB208_207 := n6_; clear n0_ n1_ n2_ n3_ n4_ n5_ n6_; clear hb hbox hg; have hnb6 := NB207_208.out; have hnc6 := NB208_207.out; obtain ⟨hcz7_0, hcz7_1, hcz7_2, hcz7_3⟩ := cz4_ BK207.out; obtain ⟨hfz7_0, hfz7_1, hfz7_2, hfz7_3⟩ := cf4_ BK207.out; obtain ⟨hcz8_0, hcz8_1, hcz8_2, hcz8_3⟩ := cz4_ BK208.out; obtain ⟨hfz8_0, hfz8_1, hfz8_2, hfz8_3⟩ := cf4_ BK208.out) | ((with_reducible refine gate_callee (f := 30) rfl ?_); refine goesL_ (some 7) rfl rfl Try.func30 (by kernel_rfl) rfl #[.agg #[.string a0_0, .slice A0_1 l0_1.length c0_1, .slice A0_2 l0_2.length c0_2, .slice A0_3 l0_3.length c0_3], .agg #[.string a1_0, .slice A1_1 l1_1.length c1_1, .slice A1_2 l1_2.length c1_2, .slice A1_3 l1_3.length c1_3]] rfl (by (try simp only [List.map_toArray, List.map_cons, List.map_nil]); first | done | rfl | (simp only [List.length_drop, List.length_take]; rfl)) ?_; (with_reducible refine (diff_Lines.calls k a0_0 _ _ l0_1 _ _ l0_2 _ _ l0_3 a1_0 _ _ l1_1 _ _ l1_2 _ _ l1_3 t209 _ ?side1 ?side2 ?side3 ?side4 ?side5 ?side6 ?side7 ?side8 ?side9 ?side10 ?side11 ?side12 A3.out).mono ?_); (case side1 => repeat (first | exact (Kd.C_below HR0_1.out HB.out) | (with_reducible refine Kd.C_alloc ?_ _) | (with_reducible refine Kd.C_drewN ?_ _) | (with_reducible refine Kd.C_drew ?_))); (case side2 => exact HC0_1.out); (case side3 => repeat (first | exact (Kd.C_below HR0_2.out HB.out) | (with_reducible refine Kd.C_alloc ?_ _) | (with_reducible refine Kd.C_drewN ?_ _) | (with_reducible refine Kd.C_drew ?_))); (case side4 => exact HC0_2.out); (case side5 => repeat (first | exact (Kd.C_below HR0_3.out HB.out) | (with_reducible refine Kd.C_alloc ?_ _) | (with_reducible refine Kd.C_drewN ?_ _) | (with_reducible refine Kd.C_drew ?_))); (case side6 => exact HC0_3.out); (case side7 => repeat (first | exact (Kd.C_below HR1_1.out HB.out) | (with_reducible refine Kd.C_alloc ?_ _) | (with_reducible refine Kd.C_drewN ?_ _) | (with_reducible refine Kd.C_drew ?_))); (case side8 => exact HC1_1.out); (case side9 => repeat (first | exact (Kd.C_below HR1_2.out HB.out) | (with_reducible refine Kd.C_alloc ?_ _) | (with_reducible refine Kd.C_drewN ?_ _) | (with_reducible refine Kd.C_drew ?_))); (case side10 => exact HC1_2.out); (case side11 => repeat (first | exact (Kd.C_below HR1_3.out HB.out) | (with_reducible refine Kd.C_alloc ?_ _) | (with_reducible refine Kd.C_drewN ?_ _) | (with_reducible refine Kd.C_drew ?_))); (case side12 => exact HC1_3.out); rintro e w9 ⟨v210, rfl, ho0, hb⟩; have hB_ := bz15_ hb (by repeat (first | (with_reducible first | exact HB.out | apply below_alloc | apply pw_below_drewN | apply below_drew1 | refine below_set ?_ GE207.out | refine below_set ?_ GE208.out) | exact HB.out)); refine ⟨_, rfl, ?_⟩; have n0_ := Aside0.mk (Kd.R_lower ho0 (below_size hB_)); have n1_ := Aside0.mk (blk_below (grw BK207.out) hb); have n2_ := Aside0.mk (blk_below (grw BK208.out) hb); have n3_ := Aside0.mk (below_step hB_ hb); clear BK207; clear BK208; clear HB; have HO211 := n0_; have BK207 := n1_; have BK208 := n2_; have HB := n3_; clear n0_ n1_ n2_ n3_; (try clear hb); (try clear hb2); (try clear hk); (try clear hi); (try clear ho0); obtain ⟨Ao10, co10, eo10⟩ := Kd.R_slice HO211.out; subst eo10))
 go_ret
 exact ⟨by first | rfl | (simp [errW_none, errW_some] <;> rfl) | (simp [*, errW_none, errW_some] <;> rfl), by repeat (first | (with_reducible first | exact HB.out | apply below_alloc | apply pw_below_drewN | apply below_drew1 | refine below_set ?_ GE207.out | refine below_set ?_ GE208.out) | exact HB.out)⟩

/-! ### semblancelaw53_awake: function 29 -/
def semblancelaw53_awake.f (k : Nat)  : Option (Bool) := (some (([(⟨(⟨#[116]⟩ : ByteArray), 2, (-1), ([] : List (S130)), ([] : List (S130)), ([] : List (S102))⟩ : S99), (⟨(⟨#[97]⟩ : ByteArray), 1, 0, ([] : List (S130)), ([] : List (S130)), ([] : List (S102))⟩ : S99), (⟨(⟨#[98]⟩ : ByteArray), 1, 0, ([] : List (S130)), ([] : List (S130)), ([] : List (S102))⟩ : S99)] : List (S99)) : List (S99))).bind fun y212 => ((some (([(⟨(⟨#[116]⟩ : ByteArray), 3, (-1), ([] : List (S130)), ([] : List (S130)), ([] : List (S102))⟩ : S99), (⟨(⟨#[97]⟩ : ByteArray), 1, 0, ([] : List (S130)), ([] : List (S130)), ([] : List (S102))⟩ : S99), (⟨(⟨#[122]⟩ : ByteArray), 1, 0, ([] : List (S130)), ([] : List (S130)), ([] : List (S102))⟩ : S99)] : List (S99)) : List (S99))).bind fun y216 => ((diff_Lines.f k (⟨#[99]⟩ : ByteArray) ([] : List ByteArray) ([] : List (S95)) y212 (⟨#[100]⟩ : ByteArray) ([] : List ByteArray) ([] : List (S95)) y216).bind fun t220 => ((semblanceref01_Texts.f k t220 (([(⟨#[110, 97, 109, 101]⟩ : ByteArray), (⟨#[126, 32, 116]⟩ : ByteArray), (⟨#[45, 32, 98]⟩ : ByteArray), (⟨#[43, 32, 122]⟩ : ByteArray)] : List ByteArray))).bind fun t226 => (if t226 = true then ((diff_Same.f k (⟨#[99]⟩ : ByteArray) ([] : List ByteArray) ([] : List (S95)) y212 (⟨#[99]⟩ : ByteArray) ([] : List ByteArray) ([] : List (S95)) y212).bind fun t227 => (if t227 = true then ((diff_Same.f k (⟨#[99]⟩ : ByteArray) ([] : List ByteArray) ([] : List (S95)) y212 (⟨#[100]⟩ : ByteArray) ([] : List ByteArray) ([] : List (S95)) y216).bind fun t228 => (some (!t228))) else (some false))) else (some false)))))
theorem semblancelaw53_awake.mono : ∀ k, LeO (semblancelaw53_awake.f k ) (semblancelaw53_awake.f (k + 1) ) := by
  intro  k
  unfold semblancelaw53_awake.f
  repeat' first
      | (with_reducible exact diff_Lines.mono _ _ _ _ _ _ _ _ _)
      | (with_reducible exact diff_Same.mono _ _ _ _ _ _ _ _ _)
      | (with_reducible exact semblanceref01_Texts.mono _ _ _)
      | (with_reducible exact LeO.refl _)
      | (with_reducible exact LeO.none _)
      | (with_reducible refine LeO.ite ?_ ?_)
      | (with_reducible refine LeO.bind ?_ (fun _ => ?_))
      | exact diff_Lines.mono _ _ _ _ _ _ _ _ _
      | exact diff_Same.mono _ _ _ _ _ _ _ _ _
      | exact semblanceref01_Texts.mono _ _ _
      | exact LeO.none _
      | refine LeO.ite ?_ ?_
      | refine LeO.bind ?_ (fun _ => ?_)
theorem bz16_ {W W2 w : World} (_ : Below W.heap.size W W2) (h : Below w.heap.size w W) : Below w.heap.size w W := h
set_option maxHeartbeats 8000000 in
set_option maxRecDepth 100000 in
theorem semblancelaw53_awake.calls0 (k : Nat) (r : Bool) (w : World) (hr : r = true) (h : semblancelaw53_awake.f k  = some r) :
  Calls Try.prog 29 #[] w fun e w' => e = .returned (.bool r) ∧ Below w.heap.size w w' := by
 have hu99 := Try.underlying99
 have hu59 := Try.underlying59
 have HB := Aside0.mk (Below.refl w.heap.size w)
 have H : ((some (([(⟨(⟨#[116]⟩ : ByteArray), 2, (-1), ([] : List (S130)), ([] : List (S130)), ([] : List (S102))⟩ : S99), (⟨(⟨#[97]⟩ : ByteArray), 1, 0, ([] : List (S130)), ([] : List (S130)), ([] : List (S102))⟩ : S99), (⟨(⟨#[98]⟩ : ByteArray), 1, 0, ([] : List (S130)), ([] : List (S130)), ([] : List (S102))⟩ : S99)] : List (S99)) : List (S99))).bind fun y212 => ((some (([(⟨(⟨#[116]⟩ : ByteArray), 3, (-1), ([] : List (S130)), ([] : List (S130)), ([] : List (S102))⟩ : S99), (⟨(⟨#[97]⟩ : ByteArray), 1, 0, ([] : List (S130)), ([] : List (S130)), ([] : List (S102))⟩ : S99), (⟨(⟨#[122]⟩ : ByteArray), 1, 0, ([] : List (S130)), ([] : List (S130)), ([] : List (S102))⟩ : S99)] : List (S99)) : List (S99))).bind fun y216 => ((diff_Lines.f k (⟨#[99]⟩ : ByteArray) ([] : List ByteArray) ([] : List (S95)) y212 (⟨#[100]⟩ : ByteArray) ([] : List ByteArray) ([] : List (S95)) y216).bind fun t220 => ((semblanceref01_Texts.f k t220 (([(⟨#[110, 97, 109, 101]⟩ : ByteArray), (⟨#[126, 32, 116]⟩ : ByteArray), (⟨#[45, 32, 98]⟩ : ByteArray), (⟨#[43, 32, 122]⟩ : ByteArray)] : List ByteArray))).bind fun t226 => (if t226 = true then ((diff_Same.f k (⟨#[99]⟩ : ByteArray) ([] : List ByteArray) ([] : List (S95)) y212 (⟨#[99]⟩ : ByteArray) ([] : List ByteArray) ([] : List (S95)) y212).bind fun t227 => (if t227 = true then ((diff_Same.f k (⟨#[99]⟩ : ByteArray) ([] : List ByteArray) ([] : List (S95)) y212 (⟨#[100]⟩ : ByteArray) ([] : List ByteArray) ([] : List (S95)) y216).bind fun t228 => (some (!t228))) else (some false))) else (some false)))))) = some r := h
 clear h
 obtain ⟨y212, hy212⟩ : ∃ y_ : List (S99), y_ = (([(⟨(⟨#[116]⟩ : ByteArray), 2, (-1), ([] : List (S130)), ([] : List (S130)), ([] : List (S102))⟩ : S99), (⟨(⟨#[97]⟩ : ByteArray), 1, 0, ([] : List (S130)), ([] : List (S130)), ([] : List (S102))⟩ : S99), (⟨(⟨#[98]⟩ : ByteArray), 1, 0, ([] : List (S130)), ([] : List (S130)), ([] : List (S102))⟩ : S99)] : List (S99))) := ⟨_, rfl⟩
 replace H : ((some (([(⟨(⟨#[116]⟩ : ByteArray), 3, (-1), ([] : List (S130)), ([] : List (S130)), ([] : List (S102))⟩ : S99), (⟨(⟨#[97]⟩ : ByteArray), 1, 0, ([] : List (S130)), ([] : List (S130)), ([] : List (S102))⟩ : S99), (⟨(⟨#[122]⟩ : ByteArray), 1, 0, ([] : List (S130)), ([] : List (S130)), ([] : List (S102))⟩ : S99)] : List (S99)) : List (S99))).bind fun y216 => ((diff_Lines.f k (⟨#[99]⟩ : ByteArray) ([] : List ByteArray) ([] : List (S95)) y212 (⟨#[100]⟩ : ByteArray) ([] : List ByteArray) ([] : List (S95)) y216).bind fun t220 => ((semblanceref01_Texts.f k t220 (([(⟨#[110, 97, 109, 101]⟩ : ByteArray), (⟨#[126, 32, 116]⟩ : ByteArray), (⟨#[45, 32, 98]⟩ : ByteArray), (⟨#[43, 32, 122]⟩ : ByteArray)] : List ByteArray))).bind fun t226 => (if t226 = true then ((diff_Same.f k (⟨#[99]⟩ : ByteArray) ([] : List ByteArray) ([] : List (S95)) y212 (⟨#[99]⟩ : ByteArray) ([] : List ByteArray) ([] : List (S95)) y212).bind fun t227 => (if t227 = true then ((diff_Same.f k (⟨#[99]⟩ : ByteArray) ([] : List ByteArray) ([] : List (S95)) y212 (⟨#[100]⟩ : ByteArray) ([] : List ByteArray) ([] : List (S95)) y216).bind fun t228 => (some (!t228))) else (some false))) else (some false))))) = some r := by first | (rw [hy212]; with_reducible exact H) | (have H2_ := (Option.bind_some _ _).symm.trans H; rw [hy212]; with_reducible exact H2_) | (have H2_ := (Option.bind_some _ _).symm.trans H; with_reducible exact H2_) | with_reducible exact H | (rw [hy212]; exact H) | exact H
 have Ny212 := Aside0.mk hy212
 clear hy212
 obtain ⟨y216, hy216⟩ : ∃ y_ : List (S99), y_ = (([(⟨(⟨#[116]⟩ : ByteArray), 3, (-1), ([] : List (S130)), ([] : List (S130)), ([] : List (S102))⟩ : S99), (⟨(⟨#[97]⟩ : ByteArray), 1, 0, ([] : List (S130)), ([] : List (S130)), ([] : List (S102))⟩ : S99), (⟨(⟨#[122]⟩ : ByteArray), 1, 0, ([] : List (S130)), ([] : List (S130)), ([] : List (S102))⟩ : S99)] : List (S99))) := ⟨_, rfl⟩
 replace H : ((diff_Lines.f k (⟨#[99]⟩ : ByteArray) ([] : List ByteArray) ([] : List (S95)) y212 (⟨#[100]⟩ : ByteArray) ([] : List ByteArray) ([] : List (S95)) y216).bind fun t220 => ((semblanceref01_Texts.f k t220 (([(⟨#[110, 97, 109, 101]⟩ : ByteArray), (⟨#[126, 32, 116]⟩ : ByteArray), (⟨#[45, 32, 98]⟩ : ByteArray), (⟨#[43, 32, 122]⟩ : ByteArray)] : List ByteArray))).bind fun t226 => (if t226 = true then ((diff_Same.f k (⟨#[99]⟩ : ByteArray) ([] : List ByteArray) ([] : List (S95)) y212 (⟨#[99]⟩ : ByteArray) ([] : List ByteArray) ([] : List (S95)) y212).bind fun t227 => (if t227 = true then ((diff_Same.f k (⟨#[99]⟩ : ByteArray) ([] : List ByteArray) ([] : List (S95)) y212 (⟨#[100]⟩ : ByteArray) ([] : List ByteArray) ([] : List (S95)) y216).bind fun t228 => (some (!t228))) else (some false))) else (some false)))) = some r := by first | (rw [hy216]; with_reducible exact H) | (have H2_ := (Option.bind_some _ _).symm.trans H; rw [hy216]; with_reducible exact H2_) | (have H2_ := (Option.bind_some _ _).symm.trans H; with_reducible exact H2_) | with_reducible exact H | (rw [hy216]; exact H) | exact H
 have Ny216 := Aside0.mk hy216
 clear hy216
 replace H := Option.bind_eq_some_iff.mp H
 obtain ⟨t220, A10, H⟩ := H
 replace H : ((semblanceref01_Texts.f k t220 (([(⟨#[110, 97, 109, 101]⟩ : ByteArray), (⟨#[126, 32, 116]⟩ : ByteArray), (⟨#[45, 32, 98]⟩ : ByteArray), (⟨#[43, 32, 122]⟩ : ByteArray)] : List ByteArray))).bind fun t226 => (if t226 = true then ((diff_Same.f k (⟨#[99]⟩ : ByteArray) ([] : List ByteArray) ([] : List (S95)) y212 (⟨#[99]⟩ : ByteArray) ([] : List ByteArray) ([] : List (S95)) y212).bind fun t227 => (if t227 = true then ((diff_Same.f k (⟨#[99]⟩ : ByteArray) ([] : List ByteArray) ([] : List (S95)) y212 (⟨#[100]⟩ : ByteArray) ([] : List ByteArray) ([] : List (S95)) y216).bind fun t228 => (some (!t228))) else (some false))) else (some false))) = some r := H
 have A1 := Aside0.mk A10
 clear A10
 obtain ⟨y223, hy223⟩ : ∃ y_ : List ByteArray, y_ = (([(⟨#[110, 97, 109, 101]⟩ : ByteArray), (⟨#[126, 32, 116]⟩ : ByteArray), (⟨#[45, 32, 98]⟩ : ByteArray), (⟨#[43, 32, 122]⟩ : ByteArray)] : List ByteArray)) := ⟨_, rfl⟩
 replace H : ((semblanceref01_Texts.f k t220 y223).bind fun t226 => (if t226 = true then ((diff_Same.f k (⟨#[99]⟩ : ByteArray) ([] : List ByteArray) ([] : List (S95)) y212 (⟨#[99]⟩ : ByteArray) ([] : List ByteArray) ([] : List (S95)) y212).bind fun t227 => (if t227 = true then ((diff_Same.f k (⟨#[99]⟩ : ByteArray) ([] : List ByteArray) ([] : List (S95)) y212 (⟨#[100]⟩ : ByteArray) ([] : List ByteArray) ([] : List (S95)) y216).bind fun t228 => (some (!t228))) else (some false))) else (some false))) = some r := by first | (rw [hy223]; with_reducible exact H) | (have H2_ := (Option.bind_some _ _).symm.trans H; rw [hy223]; with_reducible exact H2_) | (have H2_ := (Option.bind_some _ _).symm.trans H; with_reducible exact H2_) | with_reducible exact H | (rw [hy223]; exact H) | exact H
 have Ny223 := Aside0.mk hy223
 clear hy223
 replace H := Option.bind_eq_some_iff.mp H
 obtain ⟨t226, A20, H⟩ := H
 replace H : (if t226 = true then ((diff_Same.f k (⟨#[99]⟩ : ByteArray) ([] : List ByteArray) ([] : List (S95)) y212 (⟨#[99]⟩ : ByteArray) ([] : List ByteArray) ([] : List (S95)) y212).bind fun t227 => (if t227 = true then ((diff_Same.f k (⟨#[99]⟩ : ByteArray) ([] : List ByteArray) ([] : List (S95)) y212 (⟨#[100]⟩ : ByteArray) ([] : List ByteArray) ([] : List (S95)) y216).bind fun t228 => (some (!t228))) else (some false))) else (some false)) = some r := H
 have A2 := Aside0.mk A20
 clear A20
 by_cases c3 : t226 = true
 rotate_left
 ·replace c3 := Bool.eq_false_iff.mpr c3
  subst c3
  have H1 : (some false) = some r := by rw [if_neg (show ¬ (false = true) by decide)] at H; exact H
  clear H
  have H := H1
  clear H1
  rw [hr] at H
  exact absurd (Option.some.inj H) Bool.false_ne_true
 subst c3
 have H1 : ((diff_Same.f k (⟨#[99]⟩ : ByteArray) ([] : List ByteArray) ([] : List (S95)) y212 (⟨#[99]⟩ : ByteArray) ([] : List ByteArray) ([] : List (S95)) y212).bind fun t227 => (if t227 = true then ((diff_Same.f k (⟨#[99]⟩ : ByteArray) ([] : List ByteArray) ([] : List (S95)) y212 (⟨#[100]⟩ : ByteArray) ([] : List ByteArray) ([] : List (S95)) y216).bind fun t228 => (some (!t228))) else (some false))) = some r := by rw [if_pos rfl] at H; exact H
 clear H
 have H := H1
 clear H1
 replace H := Option.bind_eq_some_iff.mp H
 obtain ⟨t227, A40, H⟩ := H
 replace H : (if t227 = true then ((diff_Same.f k (⟨#[99]⟩ : ByteArray) ([] : List ByteArray) ([] : List (S95)) y212 (⟨#[100]⟩ : ByteArray) ([] : List ByteArray) ([] : List (S95)) y216).bind fun t228 => (some (!t228))) else (some false)) = some r := H
 have A4 := Aside0.mk A40
 clear A40
 by_cases c5 : t227 = true
 rotate_left
 ·replace c5 := Bool.eq_false_iff.mpr c5
  subst c5
  have H1 : (some false) = some r := by rw [if_neg (show ¬ (false = true) by decide)] at H; exact H
  clear H
  have H := H1
  clear H1
  rw [hr] at H
  exact absurd (Option.some.inj H) Bool.false_ne_true
 subst c5
 have H1 : ((diff_Same.f k (⟨#[99]⟩ : ByteArray) ([] : List ByteArray) ([] : List (S95)) y212 (⟨#[100]⟩ : ByteArray) ([] : List ByteArray) ([] : List (S95)) y216).bind fun t228 => (some (!t228))) = some r := by rw [if_pos rfl] at H; exact H
 clear H
 have H := H1
 clear H1
 replace H := Option.bind_eq_some_iff.mp H
 obtain ⟨t228, A60, H⟩ := H
 replace H : (some (!t228)) = some r := H
 have A6 := Aside0.mk A60
 clear A60
 obtain rfl := Option.some.inj H
 go_enter Try.func29, Try.ntmps29
 go_wp2_with (first | ((with_reducible refine gate_dst (N := 6) rfl ?_); refine Kd.R_lit k99 _ 99 ?hg (N := 6) ?hd (xs := ([(⟨(⟨#[116]⟩ : ByteArray), 2, (-1), ([] : List (S130)), ([] : List (S130)), ([] : List (S102))⟩ : S99), (⟨(⟨#[97]⟩ : ByteArray), 1, 0, ([] : List (S130)), ([] : List (S130)), ([] : List (S102))⟩ : S99), (⟨(⟨#[98]⟩ : ByteArray), 1, 0, ([] : List (S130)), ([] : List (S130)), ([] : List (S102))⟩ : S99)] : List (S99))) (inner := [.string (⟨#[116]⟩ : ByteArray), .int .i64 2, .int .i64 (-1), .slice none 0 0, .slice none 0 0, .slice none 0 0, .string (⟨#[97]⟩ : ByteArray), .int .i64 1, .int .i64 0, .slice none 0 0, .slice none 0 0, .slice none 0 0, .string (⟨#[98]⟩ : ByteArray), .int .i64 1, .int .i64 0, .slice none 0 0, .slice none 0 0, .slice none 0 0]) (ok := fun _ => True) (okp := fun _ => True) ?hr ?hp (fun _ hk => hk) trivial (Below.refl _ _) (Nat.le_refl _) (by simp) ?_; (case hd => rfl); (case hg => rfl); (case hr => first | (go_simp; done) | (go_simp; rfl)); (case hp => exact (Reps.c6 (show Kd.M k99 _ _ _ (⟨(⟨#[116]⟩ : ByteArray), 2, (-1), ([] : List (S130)), ([] : List (S130)), ([] : List (S102))⟩ : S99) [.string (⟨#[116]⟩ : ByteArray), .int .i64 2, .int .i64 (-1), .slice none 0 0, .slice none 0 0, .slice none 0 0] from (k99_mkM _ _ _ (⟨(⟨#[116]⟩ : ByteArray), 2, (-1), ([] : List (S130)), ([] : List (S130)), ([] : List (S102))⟩ : S99) (Kd.R_nil _ _ _ _ _) (Kd.R_nil _ _ _ _ _) (Kd.R_nil _ _ _ _ _))) (Reps.c6 (show Kd.M k99 _ _ _ (⟨(⟨#[97]⟩ : ByteArray), 1, 0, ([] : List (S130)), ([] : List (S130)), ([] : List (S102))⟩ : S99) [.string (⟨#[97]⟩ : ByteArray), .int .i64 1, .int .i64 0, .slice none 0 0, .slice none 0 0, .slice none 0 0] from (k99_mkM _ _ _ (⟨(⟨#[97]⟩ : ByteArray), 1, 0, ([] : List (S130)), ([] : List (S130)), ([] : List (S102))⟩ : S99) (Kd.R_nil _ _ _ _ _) (Kd.R_nil _ _ _ _ _) (Kd.R_nil _ _ _ _ _))) (Reps.c6 (show Kd.M k99 _ _ _ (⟨(⟨#[98]⟩ : ByteArray), 1, 0, ([] : List (S130)), ([] : List (S130)), ([] : List (S102))⟩ : S99) [.string (⟨#[98]⟩ : ByteArray), .int .i64 1, .int .i64 0, .slice none 0 0, .slice none 0 0, .slice none 0 0] from (k99_mkM _ _ _ (⟨(⟨#[98]⟩ : ByteArray), 1, 0, ([] : List (S130)), ([] : List (S130)), ([] : List (S102))⟩ : S99) (Kd.R_nil _ _ _ _ _) (Kd.R_nil _ _ _ _ _) (Kd.R_nil _ _ _ _ _))) (Reps.none _ _))))); intro v213 w7 ho8 hb hg_ hnew_; clear hg_ hnew_; (first | rw [← Ny212.out] at ho8 | (simp only [Int.reduceToNat] at ho8; rw [← Ny212.out] at ho8)); have n0_ := Aside0.mk (Kd.R_lower ho8 (below_size (brw HB.out))); have n1_ := Aside0.mk (below_step (brw HB.out) hb); clear HB; have HO214 := n0_; have HB := n1_; clear n0_ n1_; clear hb ho8; obtain ⟨Ao9, co9, eo9⟩ := Kd.R_slice HO214.out; subst eo9) | ((with_reducible refine gate_dst (N := 1) rfl ?_); refine box_event ?hg (N := 1) ?hd (cs := #[.string (⟨#[]⟩ : ByteArray), .slice none 0 0, .slice none 0 0, .slice none 0 0]) (t := 59) ?hr ?_; (case hd => rfl); (case hg => rfl); (case hr => first | (go_simp; done) | (go_simp; rfl)); intro gb215 hg w10 hbox hb; have hB_ := bz16_ hb (brw HB.out); have n0_ := Aside0.mk (Kd.R_below (by (with_reducible repeat (first | apply Kd.R_alloc | apply Kd.R_drewN | apply Kd.R_drew)); exact HO214.out) hb); have n1_ := Aside0.mk (below_step hB_ hb); have n2_ := Aside0.mk (hbox); have n3_ := Aside0.mk ((by rw [hg]; exact (below_size hB_) : w.heap.size ≤ gb215)); have n4_ := Aside0.mk ((by rw [hg]; exact (below_size hB_) : w.heap.size ≤ gb215)); clear HO214; clear HB; have HO214 := n0_; have HB := n1_; have BK215 := n2_; have GW215 := n3_; have GE215 := n4_; clear n0_ n1_ n2_ n3_ n4_; clear hb hbox hg; obtain ⟨hcz11_0, hcz11_1, hcz11_2, hcz11_3⟩ := cz4_ BK215.out; obtain ⟨hfz11_0, hfz11_1, hfz11_2, hfz11_3⟩ := cf4_ BK215.out) | ((with_reducible refine gate_dst (N := 11) rfl ?_); refine Kd.R_lit k99 _ 99 ?hg (N := 11) ?hd (xs := ([(⟨(⟨#[116]⟩ : ByteArray), 3, (-1), ([] : List (S130)), ([] : List (S130)), ([] : List (S102))⟩ : S99), (⟨(⟨#[97]⟩ : ByteArray), 1, 0, ([] : List (S130)), ([] : List (S130)), ([] : List (S102))⟩ : S99), (⟨(⟨#[122]⟩ : ByteArray), 1, 0, ([] : List (S130)), ([] : List (S130)), ([] : List (S102))⟩ : S99)] : List (S99))) (inner := [.string (⟨#[116]⟩ : ByteArray), .int .i64 3, .int .i64 (-1), .slice none 0 0, .slice none 0 0, .slice none 0 0, .string (⟨#[97]⟩ : ByteArray), .int .i64 1, .int .i64 0, .slice none 0 0, .slice none 0 0, .slice none 0 0, .string (⟨#[122]⟩ : ByteArray), .int .i64 1, .int .i64 0, .slice none 0 0, .slice none 0 0, .slice none 0 0]) (ok := fun _ => True) (okp := fun _ => True) ?hr ?hp (fun _ hk => hk) trivial (Below.refl _ _) (Nat.le_refl _) (by simp) ?_; (case hd => rfl); (case hg => rfl); (case hr => first | (go_simp; done) | (go_simp; rfl)); (case hp => exact (Reps.c6 (show Kd.M k99 _ _ _ (⟨(⟨#[116]⟩ : ByteArray), 3, (-1), ([] : List (S130)), ([] : List (S130)), ([] : List (S102))⟩ : S99) [.string (⟨#[116]⟩ : ByteArray), .int .i64 3, .int .i64 (-1), .slice none 0 0, .slice none 0 0, .slice none 0 0] from (k99_mkM _ _ _ (⟨(⟨#[116]⟩ : ByteArray), 3, (-1), ([] : List (S130)), ([] : List (S130)), ([] : List (S102))⟩ : S99) (Kd.R_nil _ _ _ _ _) (Kd.R_nil _ _ _ _ _) (Kd.R_nil _ _ _ _ _))) (Reps.c6 (show Kd.M k99 _ _ _ (⟨(⟨#[97]⟩ : ByteArray), 1, 0, ([] : List (S130)), ([] : List (S130)), ([] : List (S102))⟩ : S99) [.string (⟨#[97]⟩ : ByteArray), .int .i64 1, .int .i64 0, .slice none 0 0, .slice none 0 0, .slice none 0 0] from (k99_mkM _ _ _ (⟨(⟨#[97]⟩ : ByteArray), 1, 0, ([] : List (S130)), ([] : List (S130)), ([] : List (S102))⟩ : S99) (Kd.R_nil _ _ _ _ _) (Kd.R_nil _ _ _ _ _) (Kd.R_nil _ _ _ _ _))) (Reps.c6 (show Kd.M k99 _ _ _ (⟨(⟨#[122]⟩ : ByteArray), 1, 0, ([] : List (S130)), ([] : List (S130)), ([] : List (S102))⟩ : S99) [.string (⟨#[122]⟩ : ByteArray), .int .i64 1, .int .i64 0, .slice none 0 0, .slice none 0 0, .slice none 0 0] from (k99_mkM _ _ _ (⟨(⟨#[122]⟩ : ByteArray), 1, 0, ([] : List (S130)), ([] : List (S130)), ([] : List (S102))⟩ : S99) (Kd.R_nil _ _ _ _ _) (Kd.R_nil _ _ _ _ _) (Kd.R_nil _ _ _ _ _))) (Reps.none _ _))))); intro v217 w12 ho13 hb hg_ hnew_; clear hg_ hnew_; (first | rw [← Ny216.out] at ho13 | (simp only [Int.reduceToNat] at ho13; rw [← Ny216.out] at ho13)); have n0_ := Aside0.mk (Kd.R_elder' (by (with_reducible repeat (first | apply Kd.R_alloc | apply Kd.R_drewN | apply Kd.R_drew)); exact (Kd.R_mono (Kd.R_far (p := ⟨gb215, 3, none⟩) (Kd.R_far (p := ⟨gb215, 2, none⟩) (Kd.R_far (p := ⟨gb215, 1, none⟩) (Kd.R_far (p := ⟨gb215, 0, none⟩) (Kd.R_types HO214.out BK215.out (by decide)) (fun _ hk => hk.2) (.string (⟨#[99]⟩ : ByteArray))) (fun _ hk => hk.2) (.slice none 0 0)) (fun _ hk => hk.2) (.slice none 0 0)) (fun _ hk => hk.2) (.slice Ao9 y212.length co9)) (fun _ h_ => h_.1))) (Kd.R_base ho13) hb); have n1_ := Aside0.mk (Kd.R_lower (Kd.R_new' ho13 (Kd.R_lt (by (with_reducible repeat (first | apply Kd.R_alloc | apply Kd.R_drewN | apply Kd.R_drew)); exact (Kd.R_mono (Kd.R_far (p := ⟨gb215, 3, none⟩) (Kd.R_far (p := ⟨gb215, 2, none⟩) (Kd.R_far (p := ⟨gb215, 1, none⟩) (Kd.R_far (p := ⟨gb215, 0, none⟩) (Kd.R_types HO214.out BK215.out (by decide)) (fun _ hk => hk.2) (.string (⟨#[99]⟩ : ByteArray))) (fun _ hk => hk.2) (.slice none 0 0)) (fun _ hk => hk.2) (.slice none 0 0)) (fun _ hk => hk.2) (.slice Ao9 y212.length co9)) (fun _ h_ => h_.1))))) (below_size (by repeat (first | (with_reducible first | exact HB.out | apply below_alloc | apply pw_below_drewN | apply below_drew1 | refine below_set ?_ GE215.out) | exact HB.out)))); have n2_ := Aside0.mk (blk_below (g := gb215) (o := .cells #[.string (⟨#[99]⟩ : ByteArray), .slice none 0 0, .slice none 0 0, .slice Ao9 y212.length co9] 59 (0, 0)) (by refine grO ?_; refine blk_put (cs := #[.string (⟨#[99]⟩ : ByteArray), .slice none 0 0, .slice none 0 0, .slice none 0 0]) ?_ 3 _ rfl; refine grO ?_; refine blk_put (cs := #[.string (⟨#[99]⟩ : ByteArray), .slice none 0 0, .slice none 0 0, .slice none 0 0]) ?_ 2 _ rfl; refine grO ?_; refine blk_put (cs := #[.string (⟨#[99]⟩ : ByteArray), .slice none 0 0, .slice none 0 0, .slice none 0 0]) ?_ 1 _ rfl; refine grO ?_; refine blk_put (cs := #[.string (⟨#[]⟩ : ByteArray), .slice none 0 0, .slice none 0 0, .slice none 0 0]) ?_ 0 _ rfl; refine grO ?_; exact BK215.out) hb); have n3_ := Aside0.mk (below_step (by repeat (first | (with_reducible first | exact HB.out | apply below_alloc | apply pw_below_drewN | apply below_drew1 | refine below_set ?_ GE215.out) | exact HB.out)) hb); clear HO214; clear BK215; clear HB; have HO214 := n0_; have HO218 := n1_; have BK215 := n2_; have HB := n3_; clear n0_ n1_ n2_ n3_; clear hb ho13; obtain ⟨Ao14, co14, eo14⟩ := Kd.R_slice HO218.out; subst eo14) | ((with_reducible refine gate_dst (N := 2) rfl ?_); refine box_event ?hg (N := 2) ?hd (cs := #[.string (⟨#[]⟩ : ByteArray), .slice none 0 0, .slice none 0 0, .slice none 0 0]) (t := 59) ?hr ?_; (case hd => rfl); (case hg => rfl); (case hr => first | (go_simp; done) | (go_simp; rfl)); intro gb219 hg w15 hbox hb; have hB_ := bz16_ hb (by repeat (first | (with_reducible first | exact HB.out | apply below_alloc | apply pw_below_drewN | apply below_drew1 | refine below_set ?_ GE215.out) | exact HB.out)); have n0_ := Aside0.mk (Kd.R_below (by (with_reducible repeat (first | apply Kd.R_alloc | apply Kd.R_drewN | apply Kd.R_drew)); exact HO214.out) hb); have n1_ := Aside0.mk (Kd.R_below (by (with_reducible repeat (first | apply Kd.R_alloc | apply Kd.R_drewN | apply Kd.R_drew)); exact HO218.out) hb); have n2_ := Aside0.mk (blk_below (g := gb215) (o := .cells #[.string (⟨#[99]⟩ : ByteArray), .slice none 0 0, .slice none 0 0, .slice Ao9 y212.length co9] 59 (0, 0)) (grw BK215.out) hb); have n3_ := Aside0.mk (below_step hB_ hb); have n4_ := Aside0.mk (hbox); have n5_ := Aside0.mk ((by rw [hg]; exact (below_size hB_) : w.heap.size ≤ gb219)); have n6_ := Aside0.mk ((by rw [hg]; exact (below_size hB_) : w.heap.size ≤ gb219)); have n7_ := Aside0.mk ((by rw [hg]; exact Nat.ne_of_lt (blk_lt (g := gb215) (o := .cells #[.string (⟨#[99]⟩ : ByteArray), .slice none 0 0, .slice none 0 0, .slice Ao9 y212.length co9] 59 (0, 0)) (grw BK215.out)) : gb215 ≠ gb219)); have n8_ := Aside0.mk ((by rw [hg]; exact Nat.ne_of_gt (blk_lt (g := gb215) (o := .cells #[.string (⟨#[99]⟩ : ByteArray), .slice none 0 0, .slice none 0 0, .slice Ao9 y212.length co9] 59 (0, 0)) (grw BK215.out)) : gb219 ≠ gb215)); clear HO214; clear HO218; clear BK215; clear HB; have HO214 := n0_; have HO218 := n1_; have BK215 := n2_; have HB := n3_; have BK219 := n4_; have GW219 := n5_; have GE219 := n6_; have NB215_219 := n7_; have NB219_215 := n8_; clear n0_ n1_ n2_ n3_ n4_ n5_ n6_ n7_ n8_; clear hb hbox hg; have hnb16 := NB219_215.out; have hnc16 := NB215_219.out; obtain ⟨hcz17_0, hcz17_1, hcz17_2, hcz17_3⟩ := cz4_ BK219.out; obtain ⟨hfz17_0, hfz17_1, hfz17_2, hfz17_3⟩ := cf4_ BK219.out; obtain ⟨hcz18_0, hcz18_1, hcz18_2, hcz18_3⟩ := cz4_ BK215.out; obtain ⟨hfz18_0, hfz18_1, hfz18_2, hfz18_3⟩ := cf4_ BK215.out) | ((with_reducible refine gate_callee (f := 30) rfl ?_); refine goesL_ (some 15) rfl rfl Try.func30 (by kernel_rfl) rfl #[.agg #[.string (⟨#[99]⟩ : ByteArray), .slice none 0 0, .slice none 0 0, .slice Ao9 y212.length co9], .agg #[.string (⟨#[100]⟩ : ByteArray), .slice none 0 0, .slice none 0 0, .slice Ao14 y216.length co14]] rfl (by (try simp only [List.map_toArray, List.map_cons, List.map_nil]); first | done | rfl | (simp only [List.length_drop, List.length_take]; rfl)) ?_; (refine (diff_Lines.calls k (⟨#[99]⟩ : ByteArray) _ _ ([] : List ByteArray) _ _ ([] : List (S95)) _ _ y212 (⟨#[100]⟩ : ByteArray) _ _ ([] : List ByteArray) _ _ ([] : List (S95)) _ _ y216 t220 _ ?side1 ?side2 ?side3 ?side4 ?side5 ?side6 ?side7 ?side8 ?side9 ?side10 ?side11 ?side12 A1.out).mono ?_); (case side1 => exact Kd.C_nil _ _); (case side2 => exact Nat.le_refl _); (case side3 => exact Kd.C_nil _ _); (case side4 => exact Nat.le_refl _); (case side5 => refine (Kd.R_reads' (e := 99) (base := w.heap.size) (ok := fun k_ => (True ∧ some k_ ≠ (.slice Ao14 y216.length co14 : Value).ownBlock)) (n := y212.length) (c := co9) ?_).2.2; exact (by (with_reducible repeat (first | apply Kd.R_alloc | apply Kd.R_drewN | apply Kd.R_drew)); exact (Kd.R_mono (Kd.R_far (p := ⟨gb219, 3, none⟩) (Kd.R_far (p := ⟨gb219, 2, none⟩) (Kd.R_far (p := ⟨gb219, 1, none⟩) (Kd.R_far (p := ⟨gb219, 0, none⟩) (Kd.R_types HO214.out BK219.out (by decide)) (fun _ hk => hk.2) (.string (⟨#[100]⟩ : ByteArray))) (fun _ hk => hk.2) (.slice none 0 0)) (fun _ hk => hk.2) (.slice none 0 0)) (fun _ hk => hk.2) (.slice Ao14 y216.length co14)) (fun _ h_ => h_.1)))); (case side6 => exact (Kd.R_reads' HO214.out).2.1); (case side7 => exact Kd.C_nil _ _); (case side8 => exact Nat.le_refl _); (case side9 => exact Kd.C_nil _ _); (case side10 => exact Nat.le_refl _); (case side11 => refine (Kd.R_reads' (e := 99) (base := w.heap.size) (ok := fun k_ => (True ∧ some k_ ≠ (.slice Ao9 y212.length co9 : Value).ownBlock)) (n := y216.length) (c := co14) ?_).2.2; exact (by (with_reducible repeat (first | apply Kd.R_alloc | apply Kd.R_drewN | apply Kd.R_drew)); exact (Kd.R_mono (Kd.R_far (p := ⟨gb219, 3, none⟩) (Kd.R_far (p := ⟨gb219, 2, none⟩) (Kd.R_far (p := ⟨gb219, 1, none⟩) (Kd.R_far (p := ⟨gb219, 0, none⟩) (Kd.R_types HO218.out BK219.out (by decide)) (fun _ hk => hk.2) (.string (⟨#[100]⟩ : ByteArray))) (fun _ hk => hk.2) (.slice none 0 0)) (fun _ hk => hk.2) (.slice none 0 0)) (fun _ hk => hk.2) (.slice Ao14 y216.length co14)) (fun _ h_ => h_.1)))); (case side12 => exact (Kd.R_reads' HO218.out).2.1); rintro e w19 ⟨v221, rfl, ho0, hb⟩; have hB_ := bz16_ hb (by repeat (first | (with_reducible first | exact HB.out | apply below_alloc | apply pw_below_drewN | apply below_drew1 | refine below_set ?_ GE215.out | refine below_set ?_ GE219.out) | exact HB.out)); refine ⟨_, rfl, ?_⟩; have n0_ := Aside0.mk (Kd.R_below (by (with_reducible repeat (first | apply Kd.R_alloc | apply Kd.R_drewN | apply Kd.R_drew)); exact (Kd.R_mono (Kd.R_far (p := ⟨gb219, 3, none⟩) (Kd.R_far (p := ⟨gb219, 2, none⟩) (Kd.R_far (p := ⟨gb219, 1, none⟩) (Kd.R_far (p := ⟨gb219, 0, none⟩) (Kd.R_types HO214.out BK219.out (by decide)) (fun _ hk => hk.2) (.string (⟨#[100]⟩ : ByteArray))) (fun _ hk => hk.2) (.slice none 0 0)) (fun _ hk => hk.2) (.slice none 0 0)) (fun _ hk => hk.2) (.slice Ao14 y216.length co14)) (fun _ h_ => h_.1))) hb); have n1_ := Aside0.mk (Kd.R_below (by (with_reducible repeat (first | apply Kd.R_alloc | apply Kd.R_drewN | apply Kd.R_drew)); exact (Kd.R_mono (Kd.R_far (p := ⟨gb219, 3, none⟩) (Kd.R_far (p := ⟨gb219, 2, none⟩) (Kd.R_far (p := ⟨gb219, 1, none⟩) (Kd.R_far (p := ⟨gb219, 0, none⟩) (Kd.R_types HO218.out BK219.out (by decide)) (fun _ hk => hk.2) (.string (⟨#[100]⟩ : ByteArray))) (fun _ hk => hk.2) (.slice none 0 0)) (fun _ hk => hk.2) (.slice none 0 0)) (fun _ hk => hk.2) (.slice Ao14 y216.length co14)) (fun _ h_ => h_.1))) hb); have n2_ := Aside0.mk (Kd.R_lower ho0 (below_size hB_)); have n3_ := Aside0.mk (blk_below (g := gb215) (o := .cells #[.string (⟨#[99]⟩ : ByteArray), .slice none 0 0, .slice none 0 0, .slice Ao9 y212.length co9] 59 (0, 0)) (by refine grO ?_; refine blk_far ?_ NB215_219.out _; refine grO ?_; refine blk_far ?_ NB215_219.out _; refine grO ?_; refine blk_far ?_ NB215_219.out _; refine grO ?_; refine blk_far ?_ NB215_219.out _; refine grO ?_; exact BK215.out) hb); have n4_ := Aside0.mk (blk_below (g := gb219) (o := .cells #[.string (⟨#[100]⟩ : ByteArray), .slice none 0 0, .slice none 0 0, .slice Ao14 y216.length co14] 59 (0, 0)) (by refine grO ?_; refine blk_put (cs := #[.string (⟨#[100]⟩ : ByteArray), .slice none 0 0, .slice none 0 0, .slice none 0 0]) ?_ 3 _ rfl; refine grO ?_; refine blk_put (cs := #[.string (⟨#[100]⟩ : ByteArray), .slice none 0 0, .slice none 0 0, .slice none 0 0]) ?_ 2 _ rfl; refine grO ?_; refine blk_put (cs := #[.string (⟨#[100]⟩ : ByteArray), .slice none 0 0, .slice none 0 0, .slice none 0 0]) ?_ 1 _ rfl; refine grO ?_; refine blk_put (cs := #[.string (⟨#[]⟩ : ByteArray), .slice none 0 0, .slice none 0 0, .slice none 0 0]) ?_ 0 _ rfl; refine grO ?_; exact BK219.out) hb); have n5_ := Aside0.mk (below_step hB_ hb); clear HO214; clear HO218; clear BK215; clear BK219; clear HB; have HO214 := n0_; have HO218 := n1_; have HO222 := n2_; have BK215 := n3_; have BK219 := n4_; have HB := n5_; clear n0_ n1_ n2_ n3_ n4_ n5_; (try clear hb); (try clear hb2); (try clear hk); (try clear hi); (try clear ho0)) | ((with_reducible refine gate_dst (N := 16) rfl ?_); refine Kd.R_lit Kd.string _ 9 ?hg (N := 16) ?hd (xs := ([(⟨#[110, 97, 109, 101]⟩ : ByteArray), (⟨#[126, 32, 116]⟩ : ByteArray), (⟨#[45, 32, 98]⟩ : ByteArray), (⟨#[43, 32, 122]⟩ : ByteArray)] : List ByteArray)) (inner := [.string (⟨#[110, 97, 109, 101]⟩ : ByteArray), .string (⟨#[126, 32, 116]⟩ : ByteArray), .string (⟨#[45, 32, 98]⟩ : ByteArray), .string (⟨#[43, 32, 122]⟩ : ByteArray)]) (ok := fun _ => True) (okp := fun _ => True) ?hr ?hp (fun _ hk => hk) trivial (Below.refl _ _) (Nat.le_refl _) (by simp) ?_; (case hd => rfl); (case hg => rfl); (case hr => first | (go_simp; done) | (go_simp; rfl)); (case hp => exact (Reps.one (show Kd.M Kd.string _ _ _ (⟨#[110, 97, 109, 101]⟩ : ByteArray) [.string (⟨#[110, 97, 109, 101]⟩ : ByteArray)] from rfl) (Reps.one (show Kd.M Kd.string _ _ _ (⟨#[126, 32, 116]⟩ : ByteArray) [.string (⟨#[126, 32, 116]⟩ : ByteArray)] from rfl) (Reps.one (show Kd.M Kd.string _ _ _ (⟨#[45, 32, 98]⟩ : ByteArray) [.string (⟨#[45, 32, 98]⟩ : ByteArray)] from rfl) (Reps.one (show Kd.M Kd.string _ _ _ (⟨#[43, 32, 122]⟩ : ByteArray) [.string (⟨#[43, 32, 122]⟩ : ByteArray)] from rfl) (Reps.none _ _)))))); intro v224 w20 ho21 hb hg_ hnew_; clear hg_ hnew_; (first | rw [← Ny223.out] at ho21 | (simp only [Int.reduceToNat] at ho21; rw [← Ny223.out] at ho21)); have n0_ := Aside0.mk (Kd.R_below (by (with_reducible repeat (first | apply Kd.R_alloc | apply Kd.R_drewN | apply Kd.R_drew)); exact HO214.out) hb); have n1_ := Aside0.mk (Kd.R_below (by (with_reducible repeat (first | apply Kd.R_alloc | apply Kd.R_drewN | apply Kd.R_drew)); exact HO218.out) hb); have n2_ := Aside0.mk (Kd.R_elder' (by (with_reducible repeat (first | apply Kd.R_alloc | apply Kd.R_drewN | apply Kd.R_drew)); exact HO222.out) (Kd.R_base ho21) hb); have n3_ := Aside0.mk (Kd.R_lower (Kd.R_new' ho21 (Kd.R_lt (by (with_reducible repeat (first | apply Kd.R_alloc | apply Kd.R_drewN | apply Kd.R_drew)); exact HO222.out))) (below_size (by repeat (first | (with_reducible first | exact HB.out | apply below_alloc | apply pw_below_drewN | apply below_drew1 | refine below_set ?_ GE215.out | refine below_set ?_ GE219.out) | exact HB.out)))); have n4_ := Aside0.mk (blk_below (g := gb215) (o := .cells #[.string (⟨#[99]⟩ : ByteArray), .slice none 0 0, .slice none 0 0, .slice Ao9 y212.length co9] 59 (0, 0)) (grw BK215.out) hb); have n5_ := Aside0.mk (blk_below (g := gb219) (o := .cells #[.string (⟨#[100]⟩ : ByteArray), .slice none 0 0, .slice none 0 0, .slice Ao14 y216.length co14] 59 (0, 0)) (grw BK219.out) hb); have n6_ := Aside0.mk (below_step (by repeat (first | (with_reducible first | exact HB.out | apply below_alloc | apply pw_below_drewN | apply below_drew1 | refine below_set ?_ GE215.out | refine below_set ?_ GE219.out) | exact HB.out)) hb); clear HO214; clear HO218; clear HO222; clear BK215; clear BK219; clear HB; have HO214 := n0_; have HO218 := n1_; have HO222 := n2_; have HO225 := n3_; have BK215 := n4_; have BK219 := n5_; have HB := n6_; clear n0_ n1_ n2_ n3_ n4_ n5_ n6_; clear hb ho21; obtain ⟨Ao22, co22, eo22⟩ := Kd.R_slice HO222.out; subst eo22; obtain ⟨Ao23, co23, eo23⟩ := Kd.R_slice HO225.out; subst eo23) | ((with_reducible refine gate_callee (f := 31) rfl ?_); refine goesL_ (some 17) rfl rfl Try.func31 (by kernel_rfl) rfl #[.slice Ao22 t220.length co22, .slice Ao23 y223.length co23] rfl (by (try simp only [List.map_toArray, List.map_cons, List.map_nil]); first | done | rfl | (simp only [List.length_drop, List.length_take]; rfl)) ?_; (with_reducible refine (semblanceref01_Texts.calls k _ _ t220 _ _ y223 true _ ?side1 ?side2 ?side3 ?side4 A2.out).mono ?_); (case side1 => repeat (first | exact (Kd.R_reads' HO222.out).2.2 | (with_reducible refine Kd.C_alloc ?_ _) | (with_reducible refine Kd.C_drewN ?_ _) | (with_reducible refine Kd.C_drew ?_))); (case side2 => exact (Kd.R_reads' HO222.out).2.1); (case side3 => repeat (first | exact (Kd.R_reads' HO225.out).2.2 | (with_reducible refine Kd.C_alloc ?_ _) | (with_reducible refine Kd.C_drewN ?_ _) | (with_reducible refine Kd.C_drew ?_))); (case side4 => exact (Kd.R_reads' HO225.out).2.1); rintro e w' ⟨rfl, ⟨nd, rfl⟩⟩; refine ⟨_, rfl, ?_⟩; obtain ⟨hcz24_0, hcz24_1, hcz24_2, hcz24_3⟩ := cz4_ BK215.out; obtain ⟨hfz24_0, hfz24_1, hfz24_2, hfz24_3⟩ := cf4_ BK215.out) | (go_at_call 33; have chk_ := A4; clear chk_; (refine (diff_Same.calls k (⟨#[99]⟩ : ByteArray) _ _ ([] : List ByteArray) _ _ ([] : List (S95)) _ _ y212 (⟨#[99]⟩ : ByteArray) _ _ ([] : List ByteArray) _ _ ([] : List (S95)) _ _ y212 true _ ?side1 ?side2 ?side3 ?side4 ?side5 ?side6 ?side7 ?side8 ?side9 ?side10 ?side11 ?side12 A4.out).mono ?_); (case side1 => exact Kd.C_nil _ _); (case side2 => exact Nat.le_refl _); (case side3 => exact Kd.C_nil _ _); (case side4 => exact Nat.le_refl _); (case side5 => repeat (first | exact (Kd.R_reads' HO214.out).2.2 | (with_reducible refine Kd.C_alloc ?_ _) | (with_reducible refine Kd.C_drewN ?_ _) | (with_reducible refine Kd.C_drew ?_))); (case side6 => exact (Kd.R_reads' HO214.out).2.1); (case side7 => exact Kd.C_nil _ _); (case side8 => exact Nat.le_refl _); (case side9 => exact Kd.C_nil _ _); (case side10 => exact Nat.le_refl _); (case side11 => repeat (first | exact (Kd.R_reads' HO214.out).2.2 | (with_reducible refine Kd.C_alloc ?_ _) | (with_reducible refine Kd.C_drewN ?_ _) | (with_reducible refine Kd.C_drew ?_))); (case side12 => exact (Kd.R_reads' HO214.out).2.1); rintro e w25 ⟨rfl, hb⟩; have n0_ := Aside0.mk (Kd.R_below (by (with_reducible repeat (first | apply Kd.R_alloc | apply Kd.R_drewN | apply Kd.R_drew)); exact HO214.out) hb); have n1_ := Aside0.mk (Kd.R_below (by (with_reducible repeat (first | apply Kd.R_alloc | apply Kd.R_drewN | apply Kd.R_drew)); exact HO218.out) hb); have n2_ := Aside0.mk (Kd.R_below (by (with_reducible repeat (first | apply Kd.R_alloc | apply Kd.R_drewN | apply Kd.R_drew)); exact HO222.out) hb); have n3_ := Aside0.mk (Kd.R_below (by (with_reducible repeat (first | apply Kd.R_alloc | apply Kd.R_drewN | apply Kd.R_drew)); exact HO225.out) hb); have n4_ := Aside0.mk (blk_below (g := gb215) (o := .cells #[.string (⟨#[99]⟩ : ByteArray), .slice none 0 0, .slice none 0 0, .slice Ao9 y212.length co9] 59 (0, 0)) (grw BK215.out) hb); have n5_ := Aside0.mk (blk_below (g := gb219) (o := .cells #[.string (⟨#[100]⟩ : ByteArray), .slice none 0 0, .slice none 0 0, .slice Ao14 y216.length co14] 59 (0, 0)) (grw BK219.out) hb); have n6_ := Aside0.mk (below_step (by repeat (first | (with_reducible first | exact HB.out | apply below_alloc | apply pw_below_drewN | apply below_drew1 | refine below_set ?_ GE215.out | refine below_set ?_ GE219.out) | exact HB.out)) hb); clear HO214; clear HO218; clear HO222; clear HO225; clear BK215; clear BK219; clear HB; have HO214 := n0_; have HO218 := n1_; have HO222 := n2_; have HO225 := n3_; have BK215 := n4_; have BK219 := n5_; have HB := n6_; clear n0_ n1_ n2_ n3_ n4_ n5_ n6_; (try clear hb); (try clear hb2); (try clear hk); (try clear hi); obtain ⟨hcz26_0, hcz26_1, hcz26_2, hcz26_3⟩ := cz4_ BK215.out; obtain ⟨hfz26_0, hfz26_1, hfz26_2, hfz26_3⟩ := cf4_ BK215.out; obtain ⟨hcz27_0, hcz27_1, hcz27_2, hcz27_3⟩ := cz4_ BK219.out; obtain ⟨hfz27_0, hfz27_1, hfz27_2, hfz27_3⟩ := cf4_ BK219.out; (try clear A4)) | (go_at_call 33; have chk_ := A6; clear chk_; (refine (diff_Same.calls k (⟨#[99]⟩ : ByteArray) _ _ ([] : List ByteArray) _ _ ([] : List (S95)) _ _ y212 (⟨#[100]⟩ : ByteArray) _ _ ([] : List ByteArray) _ _ ([] : List (S95)) _ _ y216 t228 _ ?side1 ?side2 ?side3 ?side4 ?side5 ?side6 ?side7 ?side8 ?side9 ?side10 ?side11 ?side12 A6.out).mono ?_); (case side1 => exact Kd.C_nil _ _); (case side2 => exact Nat.le_refl _); (case side3 => exact Kd.C_nil _ _); (case side4 => exact Nat.le_refl _); (case side5 => repeat (first | exact (Kd.R_reads' HO214.out).2.2 | (with_reducible refine Kd.C_alloc ?_ _) | (with_reducible refine Kd.C_drewN ?_ _) | (with_reducible refine Kd.C_drew ?_))); (case side6 => exact (Kd.R_reads' HO214.out).2.1); (case side7 => exact Kd.C_nil _ _); (case side8 => exact Nat.le_refl _); (case side9 => exact Kd.C_nil _ _); (case side10 => exact Nat.le_refl _); (case side11 => repeat (first | exact (Kd.R_reads' HO218.out).2.2 | (with_reducible refine Kd.C_alloc ?_ _) | (with_reducible refine Kd.C_drewN ?_ _) | (with_reducible refine Kd.C_drew ?_))); (case side12 => exact (Kd.R_reads' HO218.out).2.1); rintro e w28 ⟨rfl, hb⟩; have n0_ := Aside0.mk (Kd.R_below (by (with_reducible repeat (first | apply Kd.R_alloc | apply Kd.R_drewN | apply Kd.R_drew)); exact HO214.out) hb); have n1_ := Aside0.mk (Kd.R_below (by (with_reducible repeat (first | apply Kd.R_alloc | apply Kd.R_drewN | apply Kd.R_drew)); exact HO218.out) hb); have n2_ := Aside0.mk (Kd.R_below (by (with_reducible repeat (first | apply Kd.R_alloc | apply Kd.R_drewN | apply Kd.R_drew)); exact HO222.out) hb); have n3_ := Aside0.mk (Kd.R_below (by (with_reducible repeat (first | apply Kd.R_alloc | apply Kd.R_drewN | apply Kd.R_drew)); exact HO225.out) hb); have n4_ := Aside0.mk (blk_below (g := gb215) (o := .cells #[.string (⟨#[99]⟩ : ByteArray), .slice none 0 0, .slice none 0 0, .slice Ao9 y212.length co9] 59 (0, 0)) (grw BK215.out) hb); have n5_ := Aside0.mk (blk_below (g := gb219) (o := .cells #[.string (⟨#[100]⟩ : ByteArray), .slice none 0 0, .slice none 0 0, .slice Ao14 y216.length co14] 59 (0, 0)) (grw BK219.out) hb); have n6_ := Aside0.mk (below_step (by repeat (first | (with_reducible first | exact HB.out | apply below_alloc | apply pw_below_drewN | apply below_drew1 | refine below_set ?_ GE215.out | refine below_set ?_ GE219.out) | exact HB.out)) hb); clear HO214; clear HO218; clear HO222; clear HO225; clear BK215; clear BK219; clear HB; have HO214 := n0_; have HO218 := n1_; have HO222 := n2_; have HO225 := n3_; have BK215 := n4_; have BK219 := n5_; have HB := n6_; clear n0_ n1_ n2_ n3_ n4_ n5_ n6_; (try clear hb); (try clear hb2); (try clear hk); (try clear hi); (try clear A6)))
 go_ret
 exact ⟨by first | rfl | (simp [errW_none, errW_some] <;> rfl) | (simp [*, errW_none, errW_some] <;> rfl), by repeat (first | (with_reducible first | exact HB.out | apply below_alloc | apply pw_below_drewN | apply below_drew1 | refine below_set ?_ GE215.out | refine below_set ?_ GE219.out) | exact HB.out)⟩
set_option maxRecDepth 100000 in
theorem semblancelaw53_awake.calls (k : Nat)  (r : Bool) (w : World) (h : semblancelaw53_awake.f k  = some r) :
  Calls Try.prog 29 #[] w fun e w' => e = .returned (.bool r) ∧ Below w.heap.size w w' := by
 have hK : semblancelaw53_awake.f 40 = some true := by decide +kernel
 have a_ := at_rounds (g := fun n => semblancelaw53_awake.f n) (fun n => semblancelaw53_awake.mono n) (Nat.le_max_left k 40) h
 have b_ := at_rounds (g := fun n => semblancelaw53_awake.f n) (fun n => semblancelaw53_awake.mono n) (Nat.le_max_right k 40) hK
 exact semblancelaw53_awake.calls0 k r w (Option.some.inj (a_.symm.trans b_)) h

/-! ### semblanceref17_Place: function 70 -/
def semblanceref17_Place.l0 : Nat → ByteArray → Int → ByteArray → List ByteArray → List (S95) → List (S99) → Option (Int)
  | 0, _, _, _, _, _, _ => none
  | k + 1, x1, x5, x230000, x230001, x230002, x230003 => if x5 < (x230003.length : Int) then (if 0 ≤ x5 then (if ((rd_T99 x230003 x5).f0).toList = x1.toList then (some x5) else (semblanceref17_Place.l0 k x1 (wrap64 (x5 + 1)) x230000 x230001 x230002 x230003)) else (none)) else (some (-1))
def semblanceref17_Place.f (k : Nat) (a0_0 : ByteArray) (l0_1 : List ByteArray) (l0_2 : List (S95)) (l0_3 : List (S99)) (a1 : ByteArray) : Option (Int) := semblanceref17_Place.l0 k a1 0 a0_0 l0_1 l0_2 l0_3
theorem semblanceref17_Place.mono_l : ∀ k, (∀ y0 y1 y2 y3 y4 y5, LeO (semblanceref17_Place.l0 k y0 y1 y2 y3 y4 y5) (semblanceref17_Place.l0 (k + 1) y0 y1 y2 y3 y4 y5))
  | 0 => fun _ _ _ _ _ _ r h => by simp [semblanceref17_Place.l0] at h
  | k + 1 => by
    have ih0 := semblanceref17_Place.mono_l k
    · intro y0 y1 y2 y3 y4 y5
      unfold semblanceref17_Place.l0
      repeat' first
      | (with_reducible exact ih0 _ _ _ _ _ _)
      | (with_reducible exact LeO.refl _)
      | (with_reducible exact LeO.none _)
      | (with_reducible refine LeO.ite ?_ ?_)
      | (with_reducible refine LeO.bind ?_ (fun _ => ?_))
      | exact ih0 _ _ _ _ _ _
      | exact LeO.none _
      | refine LeO.ite ?_ ?_
      | refine LeO.bind ?_ (fun _ => ?_)
theorem semblanceref17_Place.mono : ∀ a0 a1 a2 a3 a4 k, LeO (semblanceref17_Place.f k a0 a1 a2 a3 a4) (semblanceref17_Place.f (k + 1) a0 a1 a2 a3 a4) := by
  intro a0 a1 a2 a3 a4 k
  have ih0 := semblanceref17_Place.mono_l k
  unfold semblanceref17_Place.f
  repeat' first
      | (with_reducible exact ih0 _ _ _ _ _ _)
      | (with_reducible exact LeO.refl _)
      | (with_reducible exact LeO.none _)
      | (with_reducible refine LeO.ite ?_ ?_)
      | (with_reducible refine LeO.bind ?_ (fun _ => ?_))
      | exact ih0 _ _ _ _ _ _
      | exact LeO.none _
      | refine LeO.ite ?_ ?_
      | refine LeO.bind ?_ (fun _ => ?_)
theorem hc17_ {w W : World} {a : Addr} {v : Value} (hb : Below w.heap.size w W) (h : w.cell? a = some v) : W.cell? a = some v := (hb.cell (World.block_lt_of_cell? w _ h)).trans h
theorem bz17_ {W W2 w : World} (_ : Below W.heap.size W W2) (h : Below w.heap.size w W) : Below w.heap.size w W := h
set_option maxHeartbeats 8000000 in
set_option maxRecDepth 100000 in
theorem semblanceref17_Place.calls (k : Nat) (a0_0 : ByteArray) (A0_1 : Option Addr) (c0_1 : Nat) (l0_1 : List ByteArray) (A0_2 : Option Addr) (c0_2 : Nat) (l0_2 : List (S95)) (A0_3 : Option Addr) (c0_3 : Nat) (l0_3 : List (S99)) (a1 : ByteArray) (r : Int) (w : World) (hr0_1 : Kd.C Kd.string w A0_1 l0_1.length l0_1) (hc0_1 : l0_1.length ≤ c0_1) (hr0_2 : Kd.C k95 w A0_2 l0_2.length l0_2) (hc0_2 : l0_2.length ≤ c0_2) (hr0_3 : Kd.C k99 w A0_3 l0_3.length l0_3) (hc0_3 : l0_3.length ≤ c0_3) (h : semblanceref17_Place.f k a0_0 l0_1 l0_2 l0_3 a1 = some r) :
  Calls Try.prog 70 #[.agg #[.string a0_0, .slice A0_1 l0_1.length c0_1, .slice A0_2 l0_2.length c0_2, .slice A0_3 l0_3.length c0_3], .string a1] w fun e w' => e = .returned (.int .i64 r) ∧ Below w.heap.size w w' := by
 have hu59 := Try.underlying59
 have HR0_1 := Aside0.mk hr0_1
 have HC0_1 := Aside0.mk hc0_1
 clear hr0_1 hc0_1
 have HR0_2 := Aside0.mk hr0_2
 have HC0_2 := Aside0.mk hc0_2
 clear hr0_2 hc0_2
 have HR0_3 := Aside0.mk hr0_3
 have HC0_3 := Aside0.mk hc0_3
 clear hr0_3 hc0_3
 have HB := Aside0.mk (Below.refl w.heap.size w)
 have H : (semblanceref17_Place.l0 k a1 0 a0_0 l0_1 l0_2 l0_3) = some r := h
 clear h
 have H' := Aside0.mk H
 clear H
 go_enter Try.func70, Try.ntmps70
 go_wp2_with (first | ((with_reducible refine gate_dst (N := 2) rfl ?_); refine box_event ?hg (N := 2) ?hd (cs := #[.string a0_0, .slice A0_1 l0_1.length c0_1, .slice A0_2 l0_2.length c0_2, .slice A0_3 l0_3.length c0_3]) (t := 59) ?hr ?_; (case hd => rfl); (case hg => rfl); (case hr => first | (go_simp; done) | (go_simp; rfl)); intro gb229 hg w3 hbox hb; have hB_ := bz17_ hb (brw HB.out); have n0_ := Aside0.mk (below_step hB_ hb); have n1_ := Aside0.mk (hbox); have n2_ := Aside0.mk ((by rw [hg]; exact (below_size hB_) : w.heap.size ≤ gb229)); have n3_ := Aside0.mk ((by rw [hg]; exact (below_size hB_) : w.heap.size ≤ gb229)); clear HB; have HB := n0_; have BK229 := n1_; have GW229 := n2_; have GE229 := n3_; clear n0_ n1_ n2_ n3_; clear hb hbox hg))
 go_loopg [5] k (fun kq v5 w' => ∃ (x5_1 : Int), v5 = .int .i64 x5_1 ∧ Aside0 (semblanceref17_Place.l0 kq a1 x5_1 a0_0 l0_1 l0_2 l0_3 = some r) ∧ Aside0 (kq ≤ k) ∧ Aside0 (w'.heap[gb229]? = some (.cells #[.string a0_0, (.slice A0_1 l0_1.length c0_1), (.slice A0_2 l0_2.length c0_2), (.slice A0_3 l0_3.length c0_3)] 59 (0, 0))) ∧ Aside0 (Below w.heap.size w w'))
 case atStart => exact ⟨(0), (by first | rfl | (simp; done) | (simp [*]; done)), H', ⟨Nat.le_refl _⟩, ⟨grw BK229.out⟩, ⟨by repeat (first | (with_reducible first | exact HB.out | apply below_alloc | apply pw_below_drewN | apply below_drew1 | refine below_set ?_ GE229.out) | exact HB.out)⟩⟩
 case round =>
  clear H'
  try clear p2
  obtain ⟨x5_1, rfl, HA, HK1, BK229, HB⟩ := hrel
  cases gk with
  | zero => exact absurd HA.out (by simp [semblanceref17_Place.l0])
  | succ k1 =>
   have H := HA.out
   clear HA
   simp only [semblanceref17_Place.l0] at H
   by_cases c4 : x5_1 < (l0_3.length : Int)
   rotate_left
   ·rw [if_neg c4] at H
    have c4b0 : decide (x5_1 < (l0_3.length : Int)) = false := decide_eq_false c4
    clear c4
    obtain rfl := Option.some.inj H
    obtain ⟨hcz9_0, hcz9_1, hcz9_2, hcz9_3⟩ := cz4_ BK229.out
    obtain ⟨hfz9_0, hfz9_1, hfz9_2, hfz9_3⟩ := cf4_ BK229.out
    go_wp2
    go_ret
    exact ⟨by first | rfl | (simp [errW_none, errW_some] <;> rfl) | (simp [*, errW_none, errW_some] <;> rfl), by repeat (first | (with_reducible first | exact HB.out | apply below_alloc | apply pw_below_drewN | apply below_drew1 | refine below_set ?_ GE229.out) | exact HB.out)⟩

   rw [if_pos c4] at H
   have c4b0 : decide (x5_1 < (l0_3.length : Int)) = true := decide_eq_true c4
   clear c4
   by_cases c5 : 0 ≤ x5_1
   rotate_left
   ·rw [if_neg c5] at H
    exact absurd H (by simp)
   rw [if_pos c5] at H
   have c5b0 : decide (0 ≤ x5_1) = true := decide_eq_true c5
   clear c5
   by_cases c6 : ((rd_T99 l0_3 x5_1).f0).toList = a1.toList
   ·rw [if_pos c6] at H
    have c6b0 : (((rd_T99 l0_3 x5_1).f0).toList == a1.toList) = true := beq_iff_eq.mpr c6
    have c6b1 : (((rd_T99 l0_3 x5_1).f0).toList != a1.toList) = false := bne_eq_false_iff_eq.mpr c6
    clear c6
    obtain rfl := Option.some.inj H
    obtain ⟨hcz7_0, hcz7_1, hcz7_2, hcz7_3⟩ := cz4_ BK229.out
    obtain ⟨hfz7_0, hfz7_1, hfz7_2, hfz7_3⟩ := cf4_ BK229.out
    have p230 : 0 ≤ (x5_1 : Int) := of_decide_eq_true (by first | (with_reducible assumption) | assumption)
    have q230 : x5_1 < (l0_3.length : Int) := of_decide_eq_true (by first | (with_reducible assumption) | assumption)
    obtain ⟨ad230, A230_3, c230_3, A230_4, c230_4, A230_5, c230_5, e230, hx230_0, hx230_1, hx230_2, hx230_3, hx230_4, hx230_5, hl230_3, hi230_3, hl230_4, hi230_4, hl230_5, hi230_5⟩ := at_T99 HR0_3.out x5_1 p230 q230
    cases e230
    replace hx230_0 := hc17_ HB.out hx230_0
    replace hx230_1 := hc17_ HB.out hx230_1
    replace hx230_2 := hc17_ HB.out hx230_2
    replace hx230_3 := hc17_ HB.out hx230_3
    replace hx230_4 := hc17_ HB.out hx230_4
    replace hx230_5 := hc17_ HB.out hx230_5
    have HR230_3 := Aside0.mk hi230_3
    have HC230_3 := Aside0.mk hl230_3
    clear hi230_3 hl230_3
    have HR230_4 := Aside0.mk hi230_4
    have HC230_4 := Aside0.mk hl230_4
    clear hi230_4 hl230_4
    have HR230_5 := Aside0.mk hi230_5
    have HC230_5 := Aside0.mk hl230_5
    clear hi230_5 hl230_5
    replace p230 := eq_true p230
    replace q230 := eq_true q230
    go_wp2
    go_ret
    exact ⟨by first | rfl | (simp [errW_none, errW_some] <;> rfl) | (simp [*, errW_none, errW_some] <;> rfl), by repeat (first | (with_reducible first | exact HB.out | apply below_alloc | apply pw_below_drewN | apply below_drew1 | refine below_set ?_ GE229.out) | exact HB.out)⟩
   rw [if_neg c6] at H
   have c6b0 : (((rd_T99 l0_3 x5_1).f0).toList == a1.toList) = false := beq_eq_false_iff_ne.mpr c6
   have c6b1 : (((rd_T99 l0_3 x5_1).f0).toList != a1.toList) = true := bne_iff_ne.mpr c6
   have H' := Aside0.mk H
   clear H
   obtain ⟨hcz8_0, hcz8_1, hcz8_2, hcz8_3⟩ := cz4_ BK229.out
   obtain ⟨hfz8_0, hfz8_1, hfz8_2, hfz8_3⟩ := cf4_ BK229.out
   have p230 : 0 ≤ (x5_1 : Int) := of_decide_eq_true (by first | (with_reducible assumption) | assumption)
   have q230 : x5_1 < (l0_3.length : Int) := of_decide_eq_true (by first | (with_reducible assumption) | assumption)
   obtain ⟨ad230, A230_3, c230_3, A230_4, c230_4, A230_5, c230_5, e230, hx230_0, hx230_1, hx230_2, hx230_3, hx230_4, hx230_5, hl230_3, hi230_3, hl230_4, hi230_4, hl230_5, hi230_5⟩ := at_T99 HR0_3.out x5_1 p230 q230
   cases e230
   replace hx230_0 := hc17_ HB.out hx230_0
   replace hx230_1 := hc17_ HB.out hx230_1
   replace hx230_2 := hc17_ HB.out hx230_2
   replace hx230_3 := hc17_ HB.out hx230_3
   replace hx230_4 := hc17_ HB.out hx230_4
   replace hx230_5 := hc17_ HB.out hx230_5
   have HR230_3 := Aside0.mk hi230_3
   have HC230_3 := Aside0.mk hl230_3
   clear hi230_3 hl230_3
   have HR230_4 := Aside0.mk hi230_4
   have HC230_4 := Aside0.mk hl230_4
   clear hi230_4 hl230_4
   have HR230_5 := Aside0.mk hi230_5
   have HC230_5 := Aside0.mk hl230_5
   clear hi230_5 hl230_5
   replace p230 := eq_true p230
   replace q230 := eq_true q230
   go_wp2
   go_roundg k1
   case measure => have := HK1.out; omega
   case rel => exact ⟨(wrap64 (x5_1 + 1)), (by first | rfl | (simp; done) | (simp [*]; done)), H', ⟨by have := HK1.out; omega⟩, ⟨grw BK229.out⟩, ⟨by repeat (first | (with_reducible first | exact HB.out | apply below_alloc | apply pw_below_drewN | apply below_drew1 | refine below_set ?_ GE229.out) | exact HB.out)⟩⟩
/-! ### semblanceref53_above: function 71 -/
def semblanceref53_above.f (a0_0 : ByteArray) (l0_1 : List ByteArray) (l0_2 : List (S95)) (l0_3 : List (S99)) (a1 : Int) : Option (ByteArray) := if 0 ≤ a1 then (if a1 < (l0_3.length : Int) then (if ((rd_T99 l0_3 a1).f2) < 0 then (some (⟨#[]⟩ : ByteArray)) else (if ((rd_T99 l0_3 a1).f2) ≥ (l0_3.length : Int) then (some (⟨#[]⟩ : ByteArray)) else (if 0 ≤ ((rd_T99 l0_3 a1).f2) then (if ((rd_T99 l0_3 a1).f2) < (l0_3.length : Int) then (some ((rd_T99 l0_3 ((rd_T99 l0_3 a1).f2)).f0)) else (none)) else (none)))) else (none)) else (none)
theorem hc18_ {w W : World} {a : Addr} {v : Value} (hb : Below w.heap.size w W) (h : w.cell? a = some v) : W.cell? a = some v := (hb.cell (World.block_lt_of_cell? w _ h)).trans h
theorem bz18_ {W W2 w : World} (_ : Below W.heap.size W W2) (h : Below w.heap.size w W) : Below w.heap.size w W := h
set_option maxHeartbeats 8000000 in
set_option maxRecDepth 100000 in
theorem semblanceref53_above.calls (a0_0 : ByteArray) (A0_1 : Option Addr) (c0_1 : Nat) (l0_1 : List ByteArray) (A0_2 : Option Addr) (c0_2 : Nat) (l0_2 : List (S95)) (A0_3 : Option Addr) (c0_3 : Nat) (l0_3 : List (S99)) (a1 : Int) (r : ByteArray) (w : World) (hr0_1 : Kd.C Kd.string w A0_1 l0_1.length l0_1) (hc0_1 : l0_1.length ≤ c0_1) (hr0_2 : Kd.C k95 w A0_2 l0_2.length l0_2) (hc0_2 : l0_2.length ≤ c0_2) (hr0_3 : Kd.C k99 w A0_3 l0_3.length l0_3) (hc0_3 : l0_3.length ≤ c0_3) (h : semblanceref53_above.f a0_0 l0_1 l0_2 l0_3 a1 = some r) :
  Calls Try.prog 71 #[.agg #[.string a0_0, .slice A0_1 l0_1.length c0_1, .slice A0_2 l0_2.length c0_2, .slice A0_3 l0_3.length c0_3], .int .i64 a1] w fun e w' => e = .returned (.string r) ∧ Below w.heap.size w w' := by
 have hu59 := Try.underlying59
 have HR0_1 := Aside0.mk hr0_1
 have HC0_1 := Aside0.mk hc0_1
 clear hr0_1 hc0_1
 have HR0_2 := Aside0.mk hr0_2
 have HC0_2 := Aside0.mk hc0_2
 clear hr0_2 hc0_2
 have HR0_3 := Aside0.mk hr0_3
 have HC0_3 := Aside0.mk hc0_3
 clear hr0_3 hc0_3
 have HB := Aside0.mk (Below.refl w.heap.size w)
 have H : (if 0 ≤ a1 then (if a1 < (l0_3.length : Int) then (if ((rd_T99 l0_3 a1).f2) < 0 then (some (⟨#[]⟩ : ByteArray)) else (if ((rd_T99 l0_3 a1).f2) ≥ (l0_3.length : Int) then (some (⟨#[]⟩ : ByteArray)) else (if 0 ≤ ((rd_T99 l0_3 a1).f2) then (if ((rd_T99 l0_3 a1).f2) < (l0_3.length : Int) then (some ((rd_T99 l0_3 ((rd_T99 l0_3 a1).f2)).f0)) else (none)) else (none)))) else (none)) else (none)) = some r := h
 clear h
 by_cases c3 : 0 ≤ a1
 rotate_left
 ·rw [if_neg c3] at H
  exact absurd H (by simp)

 rw [if_pos c3] at H
 have c3b0 : decide (0 ≤ a1) = true := decide_eq_true c3
 clear c3
 by_cases c4 : a1 < (l0_3.length : Int)
 rotate_left
 ·rw [if_neg c4] at H
  exact absurd H (by simp)
 rw [if_pos c4] at H
 have c4b0 : decide (a1 < (l0_3.length : Int)) = true := decide_eq_true c4
 clear c4
 by_cases c5 : ((rd_T99 l0_3 a1).f2) < 0
 ·rw [if_pos c5] at H
  have c5b0 : decide (((rd_T99 l0_3 a1).f2) < 0) = true := decide_eq_true c5
  clear c5
  obtain rfl := Option.some.inj H
  go_enter Try.func71, Try.ntmps71
  go_wp2_with (first | ((with_reducible refine gate_dst (N := 2) rfl ?_); (try (refine gate_guard (by rfl) ?_; dsimp only)); refine box_event ?hg (N := 2) ?hd (cs := #[.string a0_0, .slice A0_1 l0_1.length c0_1, .slice A0_2 l0_2.length c0_2, .slice A0_3 l0_3.length c0_3]) (t := 59) ?hr ?_; (case hd => rfl); (case hg => rfl); (case hr => first | (go_simp; done) | (go_simp; rfl)); intro gb231 hg w6 hbox hb; have hB_ := bz18_ hb (brw HB.out); have n0_ := Aside0.mk (below_step hB_ hb); have n1_ := Aside0.mk (hbox); have n2_ := Aside0.mk ((by rw [hg]; exact (below_size hB_) : w.heap.size ≤ gb231)); have n3_ := Aside0.mk ((by rw [hg]; exact (below_size hB_) : w.heap.size ≤ gb231)); clear HB; have HB := n0_; have BK231 := n1_; have GW231 := n2_; have GE231 := n3_; clear n0_ n1_ n2_ n3_; clear hb hbox hg; obtain ⟨hcz7_0, hcz7_1, hcz7_2, hcz7_3⟩ := cz4_ BK231.out; obtain ⟨hfz7_0, hfz7_1, hfz7_2, hfz7_3⟩ := cf4_ BK231.out; have p232 : 0 ≤ (a1 : Int) := of_decide_eq_true (by first | (with_reducible assumption) | assumption); have q232 : a1 < (l0_3.length : Int) := of_decide_eq_true (by first | (with_reducible assumption) | assumption); obtain ⟨ad232, A232_3, c232_3, A232_4, c232_4, A232_5, c232_5, e232, hx232_0, hx232_1, hx232_2, hx232_3, hx232_4, hx232_5, hl232_3, hi232_3, hl232_4, hi232_4, hl232_5, hi232_5⟩ := at_T99 HR0_3.out a1 p232 q232; cases e232; replace hx232_0 := hc18_ HB.out hx232_0; replace hx232_1 := hc18_ HB.out hx232_1; replace hx232_2 := hc18_ HB.out hx232_2; replace hx232_3 := hc18_ HB.out hx232_3; replace hx232_4 := hc18_ HB.out hx232_4; replace hx232_5 := hc18_ HB.out hx232_5; have HR232_3 := Aside0.mk hi232_3; have HC232_3 := Aside0.mk hl232_3; clear hi232_3 hl232_3; have HR232_4 := Aside0.mk hi232_4; have HC232_4 := Aside0.mk hl232_4; clear hi232_4 hl232_4; have HR232_5 := Aside0.mk hi232_5; have HC232_5 := Aside0.mk hl232_5; clear hi232_5 hl232_5; replace p232 := eq_true p232; replace q232 := eq_true q232))
  go_ret
  exact ⟨by first | rfl | (simp [errW_none, errW_some] <;> rfl) | (simp [*, errW_none, errW_some] <;> rfl), by repeat (first | (with_reducible first | exact HB.out | apply below_alloc | apply pw_below_drewN | apply below_drew1 | refine below_set ?_ GE231.out) | exact HB.out)⟩
 rw [if_neg c5] at H
 have c5b0 : decide (((rd_T99 l0_3 a1).f2) < 0) = false := decide_eq_false c5
 clear c5
 by_cases c8 : ((rd_T99 l0_3 a1).f2) ≥ (l0_3.length : Int)
 ·rw [if_pos c8] at H
  have c8b0 : decide ((l0_3.length : Int) ≤ ((rd_T99 l0_3 a1).f2)) = true := decide_eq_true c8
  clear c8
  obtain rfl := Option.some.inj H
  go_enter Try.func71, Try.ntmps71
  go_wp2_with (first | ((with_reducible refine gate_dst (N := 2) rfl ?_); (try (refine gate_guard (by rfl) ?_; dsimp only)); refine box_event ?hg (N := 2) ?hd (cs := #[.string a0_0, .slice A0_1 l0_1.length c0_1, .slice A0_2 l0_2.length c0_2, .slice A0_3 l0_3.length c0_3]) (t := 59) ?hr ?_; (case hd => rfl); (case hg => rfl); (case hr => first | (go_simp; done) | (go_simp; rfl)); intro gb231 hg w9 hbox hb; have hB_ := bz18_ hb (brw HB.out); have n0_ := Aside0.mk (below_step hB_ hb); have n1_ := Aside0.mk (hbox); have n2_ := Aside0.mk ((by rw [hg]; exact (below_size hB_) : w.heap.size ≤ gb231)); have n3_ := Aside0.mk ((by rw [hg]; exact (below_size hB_) : w.heap.size ≤ gb231)); clear HB; have HB := n0_; have BK231 := n1_; have GW231 := n2_; have GE231 := n3_; clear n0_ n1_ n2_ n3_; clear hb hbox hg; obtain ⟨hcz10_0, hcz10_1, hcz10_2, hcz10_3⟩ := cz4_ BK231.out; obtain ⟨hfz10_0, hfz10_1, hfz10_2, hfz10_3⟩ := cf4_ BK231.out; have p232 : 0 ≤ (a1 : Int) := of_decide_eq_true (by first | (with_reducible assumption) | assumption); have q232 : a1 < (l0_3.length : Int) := of_decide_eq_true (by first | (with_reducible assumption) | assumption); obtain ⟨ad232, A232_3, c232_3, A232_4, c232_4, A232_5, c232_5, e232, hx232_0, hx232_1, hx232_2, hx232_3, hx232_4, hx232_5, hl232_3, hi232_3, hl232_4, hi232_4, hl232_5, hi232_5⟩ := at_T99 HR0_3.out a1 p232 q232; cases e232; replace hx232_0 := hc18_ HB.out hx232_0; replace hx232_1 := hc18_ HB.out hx232_1; replace hx232_2 := hc18_ HB.out hx232_2; replace hx232_3 := hc18_ HB.out hx232_3; replace hx232_4 := hc18_ HB.out hx232_4; replace hx232_5 := hc18_ HB.out hx232_5; have HR232_3 := Aside0.mk hi232_3; have HC232_3 := Aside0.mk hl232_3; clear hi232_3 hl232_3; have HR232_4 := Aside0.mk hi232_4; have HC232_4 := Aside0.mk hl232_4; clear hi232_4 hl232_4; have HR232_5 := Aside0.mk hi232_5; have HC232_5 := Aside0.mk hl232_5; clear hi232_5 hl232_5; replace p232 := eq_true p232; replace q232 := eq_true q232))
  go_ret
  exact ⟨by first | rfl | (simp [errW_none, errW_some] <;> rfl) | (simp [*, errW_none, errW_some] <;> rfl), by repeat (first | (with_reducible first | exact HB.out | apply below_alloc | apply pw_below_drewN | apply below_drew1 | refine below_set ?_ GE231.out) | exact HB.out)⟩
 rw [if_neg c8] at H
 have c8b0 : decide ((l0_3.length : Int) ≤ ((rd_T99 l0_3 a1).f2)) = false := decide_eq_false c8
 clear c8
 by_cases c11 : 0 ≤ ((rd_T99 l0_3 a1).f2)
 rotate_left
 ·rw [if_neg c11] at H
  exact absurd H (by simp)
 rw [if_pos c11] at H
 have c11b0 : decide (0 ≤ ((rd_T99 l0_3 a1).f2)) = true := decide_eq_true c11
 clear c11
 by_cases c12 : ((rd_T99 l0_3 a1).f2) < (l0_3.length : Int)
 rotate_left
 ·rw [if_neg c12] at H
  exact absurd H (by simp)
 rw [if_pos c12] at H
 have c12b0 : decide (((rd_T99 l0_3 a1).f2) < (l0_3.length : Int)) = true := decide_eq_true c12
 clear c12
 obtain rfl := Option.some.inj H
 go_enter Try.func71, Try.ntmps71
 go_wp2_with (first | ((with_reducible refine gate_dst (N := 2) rfl ?_); (try (refine gate_guard (by rfl) ?_; dsimp only)); refine box_event ?hg (N := 2) ?hd (cs := #[.string a0_0, .slice A0_1 l0_1.length c0_1, .slice A0_2 l0_2.length c0_2, .slice A0_3 l0_3.length c0_3]) (t := 59) ?hr ?_; (case hd => rfl); (case hg => rfl); (case hr => first | (go_simp; done) | (go_simp; rfl)); intro gb231 hg w13 hbox hb; have hB_ := bz18_ hb (brw HB.out); have n0_ := Aside0.mk (below_step hB_ hb); have n1_ := Aside0.mk (hbox); have n2_ := Aside0.mk ((by rw [hg]; exact (below_size hB_) : w.heap.size ≤ gb231)); have n3_ := Aside0.mk ((by rw [hg]; exact (below_size hB_) : w.heap.size ≤ gb231)); clear HB; have HB := n0_; have BK231 := n1_; have GW231 := n2_; have GE231 := n3_; clear n0_ n1_ n2_ n3_; clear hb hbox hg; obtain ⟨hcz14_0, hcz14_1, hcz14_2, hcz14_3⟩ := cz4_ BK231.out; obtain ⟨hfz14_0, hfz14_1, hfz14_2, hfz14_3⟩ := cf4_ BK231.out; have p232 : 0 ≤ (a1 : Int) := of_decide_eq_true (by first | (with_reducible assumption) | assumption); have q232 : a1 < (l0_3.length : Int) := of_decide_eq_true (by first | (with_reducible assumption) | assumption); obtain ⟨ad232, A232_3, c232_3, A232_4, c232_4, A232_5, c232_5, e232, hx232_0, hx232_1, hx232_2, hx232_3, hx232_4, hx232_5, hl232_3, hi232_3, hl232_4, hi232_4, hl232_5, hi232_5⟩ := at_T99 HR0_3.out a1 p232 q232; cases e232; replace hx232_0 := hc18_ HB.out hx232_0; replace hx232_1 := hc18_ HB.out hx232_1; replace hx232_2 := hc18_ HB.out hx232_2; replace hx232_3 := hc18_ HB.out hx232_3; replace hx232_4 := hc18_ HB.out hx232_4; replace hx232_5 := hc18_ HB.out hx232_5; have HR232_3 := Aside0.mk hi232_3; have HC232_3 := Aside0.mk hl232_3; clear hi232_3 hl232_3; have HR232_4 := Aside0.mk hi232_4; have HC232_4 := Aside0.mk hl232_4; clear hi232_4 hl232_4; have HR232_5 := Aside0.mk hi232_5; have HC232_5 := Aside0.mk hl232_5; clear hi232_5 hl232_5; replace p232 := eq_true p232; replace q232 := eq_true q232; have p233 : 0 ≤ (((rd_T99 l0_3 a1).f2) : Int) := of_decide_eq_true (by first | (with_reducible assumption) | assumption); have q233 : ((rd_T99 l0_3 a1).f2) < (l0_3.length : Int) := of_decide_eq_true (by first | (with_reducible assumption) | assumption); obtain ⟨ad233, A233_3, c233_3, A233_4, c233_4, A233_5, c233_5, e233, hx233_0, hx233_1, hx233_2, hx233_3, hx233_4, hx233_5, hl233_3, hi233_3, hl233_4, hi233_4, hl233_5, hi233_5⟩ := at_T99 HR0_3.out ((rd_T99 l0_3 a1).f2) p233 q233; obtain rfl : ad232 = ad233 := (by injection e233); replace hx233_0 := hc18_ HB.out hx233_0; replace hx233_1 := hc18_ HB.out hx233_1; replace hx233_2 := hc18_ HB.out hx233_2; replace hx233_3 := hc18_ HB.out hx233_3; replace hx233_4 := hc18_ HB.out hx233_4; replace hx233_5 := hc18_ HB.out hx233_5; have HR233_3 := Aside0.mk hi233_3; have HC233_3 := Aside0.mk hl233_3; clear hi233_3 hl233_3; have HR233_4 := Aside0.mk hi233_4; have HC233_4 := Aside0.mk hl233_4; clear hi233_4 hl233_4; have HR233_5 := Aside0.mk hi233_5; have HC233_5 := Aside0.mk hl233_5; clear hi233_5 hl233_5; replace p233 := eq_true p233; replace q233 := eq_true q233))
 go_ret
 exact ⟨by first | rfl | (simp [errW_none, errW_some] <;> rfl) | (simp [*, errW_none, errW_some] <;> rfl), by repeat (first | (with_reducible first | exact HB.out | apply below_alloc | apply pw_below_drewN | apply below_drew1 | refine below_set ?_ GE231.out) | exact HB.out)⟩
/-! ### semblanceref05_Same: function 101 -/
def semblanceref05_Same.l0 : Nat → List (S117) → List (S117) → Int → Option (Bool)
  | 0, _, _, _ => none
  | k + 1, x0, x1, x5 => if x5 < (x0.length : Int) then (if 0 ≤ x5 then (if x5 < (x1.length : Int) then (if (!(((rd_T117 x0 x5).f0) == ((rd_T117 x1 x5).f0)) || (!(((rd_T117 x0 x5).f1) == ((rd_T117 x1 x5).f1)) || (!((((rd_T117 x0 x5).f2).toList) == (((rd_T117 x1 x5).f2).toList))))) = true then (some false) else (semblanceref05_Same.l0 k x0 x1 (wrap64 (x5 + 1)))) else (none)) else (none)) else (some true)
def semblanceref05_Same.f (k : Nat) (l0 : List (S117)) (l1 : List (S117)) : Option (Bool) := if (l0.length : Int) = (l1.length : Int) then (semblanceref05_Same.l0 k l0 l1 0) else (some false)
theorem semblanceref05_Same.mono_l : ∀ k, (∀ y0 y1 y2, LeO (semblanceref05_Same.l0 k y0 y1 y2) (semblanceref05_Same.l0 (k + 1) y0 y1 y2))
  | 0 => fun _ _ _ r h => by simp [semblanceref05_Same.l0] at h
  | k + 1 => by
    have ih0 := semblanceref05_Same.mono_l k
    · intro y0 y1 y2
      unfold semblanceref05_Same.l0
      repeat' first
      | (with_reducible exact ih0 _ _ _)
      | (with_reducible exact LeO.refl _)
      | (with_reducible exact LeO.none _)
      | (with_reducible refine LeO.ite ?_ ?_)
      | (with_reducible refine LeO.bind ?_ (fun _ => ?_))
      | exact ih0 _ _ _
      | exact LeO.none _
      | refine LeO.ite ?_ ?_
      | refine LeO.bind ?_ (fun _ => ?_)
theorem semblanceref05_Same.mono : ∀ a0 a1 k, LeO (semblanceref05_Same.f k a0 a1) (semblanceref05_Same.f (k + 1) a0 a1) := by
  intro a0 a1 k
  have ih0 := semblanceref05_Same.mono_l k
  unfold semblanceref05_Same.f
  repeat' first
      | (with_reducible exact ih0 _ _ _)
      | (with_reducible exact LeO.refl _)
      | (with_reducible exact LeO.none _)
      | (with_reducible refine LeO.ite ?_ ?_)
      | (with_reducible refine LeO.bind ?_ (fun _ => ?_))
      | exact ih0 _ _ _
      | exact LeO.none _
      | refine LeO.ite ?_ ?_
      | refine LeO.bind ?_ (fun _ => ?_)
set_option maxHeartbeats 8000000 in
set_option maxRecDepth 100000 in
theorem semblanceref05_Same.calls (k : Nat) (A0 : Option Addr) (c0 : Nat) (l0 : List (S117)) (A1 : Option Addr) (c1 : Nat) (l1 : List (S117)) (r : Bool) (w : World) (hr0 : Kd.C k117 w A0 l0.length l0) (hc0 : l0.length ≤ c0) (hr1 : Kd.C k117 w A1 l1.length l1) (hc1 : l1.length ≤ c1) (h : semblanceref05_Same.f k l0 l1 = some r) :
  Calls Try.prog 101 #[.slice A0 l0.length c0, .slice A1 l1.length c1] w fun e w' => e = .returned (.bool r) ∧ Drawn0 w w' := by
 have hu117 := Try.underlying117
 have HR0 := Aside0.mk hr0
 have HC0 := Aside0.mk hc0
 clear hr0 hc0
 have HR1 := Aside0.mk hr1
 have HC1 := Aside0.mk hc1
 clear hr1 hc1
 have H : (if (l0.length : Int) = (l1.length : Int) then (semblanceref05_Same.l0 k l0 l1 0) else (some false)) = some r := h
 clear h
 by_cases c3 : (l0.length : Int) = (l1.length : Int)
 rotate_left
 ·rw [if_neg c3] at H
  have c3b0 : ((l0.length : Int) == (l1.length : Int)) = false := beq_eq_false_iff_ne.mpr c3
  have c3b1 : ((l0.length : Int) != (l1.length : Int)) = true := bne_iff_ne.mpr c3
  have c3b2 : (l0.length == l1.length) = false := by first | simpa using c3 | (simp at c3 ⊢; omega)
  obtain rfl := Option.some.inj H
  go_enter Try.func101, Try.ntmps101
  go_wp2
  repeat (go_quiet (fail); try go_wp2)
  go_ret
  exact ⟨by first | rfl | (simp; done) | (simp [*]; done), by repeat (first | exact Drawn0.refl _ | apply Drawn0.step)⟩

 rw [if_pos c3] at H
 have c3b0 : ((l0.length : Int) == (l1.length : Int)) = true := beq_iff_eq.mpr c3
 have c3b1 : ((l0.length : Int) != (l1.length : Int)) = false := bne_eq_false_iff_eq.mpr c3
 have c3b2 : (l0.length == l1.length) = true := by first | simpa using c3 | (simp at c3 ⊢; omega)
 clear c3
 have H' := Aside0.mk H
 clear H
 go_enter Try.func101, Try.ntmps101
 go_wp2
 repeat (go_quiet (fail); try go_wp2)
 go_loopg [5] k (fun kq v5 w' => ∃ (x5_1 : Int), v5 = .int .i64 x5_1 ∧ Aside0 (semblanceref05_Same.l0 kq l0 l1 x5_1 = some r) ∧ Aside0 (kq ≤ k) ∧ Drawn0 w w')
 case atStart => exact ⟨(0), (by first | rfl | (simp; done) | (simp [*]; done)), H', ⟨Nat.le_refl _⟩, by repeat (first | exact Drawn0.refl _ | apply Drawn0.step)⟩
 case round =>
  clear H'
  try clear c1
  try clear p2
  try clear c3
  try clear c3b0
  try clear c3b1
  try clear c3b2
  obtain ⟨x5_1, rfl, HA, HK1, ⟨m1, rfl⟩⟩ := hrel
  cases gk with
  | zero => exact absurd HA.out (by simp [semblanceref05_Same.l0])
  | succ k1 =>
   have H := HA.out
   clear HA
   simp only [semblanceref05_Same.l0] at H
   by_cases c4 : x5_1 < (l0.length : Int)
   rotate_left
   ·rw [if_neg c4] at H
    have c4b0 : decide (x5_1 < (l0.length : Int)) = false := decide_eq_false c4
    clear c4
    obtain rfl := Option.some.inj H
    go_wp2
    repeat (go_quiet (fail); try go_wp2)
    go_ret
    exact ⟨by first | rfl | (simp; done) | (simp [*]; done), by repeat (first | exact Drawn0.refl _ | apply Drawn0.step)⟩
   rw [if_pos c4] at H
   have c4b0 : decide (x5_1 < (l0.length : Int)) = true := decide_eq_true c4
   clear c4
   by_cases c5 : 0 ≤ x5_1
   rotate_left
   ·rw [if_neg c5] at H
    exact absurd H (by simp)
   rw [if_pos c5] at H
   have c5b0 : decide (0 ≤ x5_1) = true := decide_eq_true c5
   clear c5
   by_cases c6 : x5_1 < (l1.length : Int)
   rotate_left
   ·rw [if_neg c6] at H
    exact absurd H (by simp)
   rw [if_pos c6] at H
   have c6b0 : decide (x5_1 < (l1.length : Int)) = true := decide_eq_true c6
   clear c6
   by_cases c7 : (!(((rd_T117 l0 x5_1).f0) == ((rd_T117 l1 x5_1).f0)) || (!(((rd_T117 l0 x5_1).f1) == ((rd_T117 l1 x5_1).f1)) || (!((((rd_T117 l0 x5_1).f2).toList) == (((rd_T117 l1 x5_1).f2).toList))))) = true
   ·rw [if_pos c7] at H
    have c7b0 : (!(((rd_T117 l0 x5_1).f0) == ((rd_T117 l1 x5_1).f0)) || (!(((rd_T117 l0 x5_1).f1) == ((rd_T117 l1 x5_1).f1)) || (!((((rd_T117 l0 x5_1).f2).toList) == (((rd_T117 l1 x5_1).f2).toList))))) = true := c7
    clear c7
    obtain rfl := Option.some.inj H
    have p234 : 0 ≤ (x5_1 : Int) := of_decide_eq_true (by first | (with_reducible assumption) | assumption)
    have q234 : x5_1 < (l0.length : Int) := of_decide_eq_true (by first | (with_reducible assumption) | assumption)
    obtain ⟨ad234, e234, hx234_0, hx234_1, hx234_2⟩ := at_T117 HR0.out x5_1 p234 q234
    cases e234
    replace p234 := eq_true p234
    replace q234 := eq_true q234
    have p235 : 0 ≤ (x5_1 : Int) := of_decide_eq_true (by first | (with_reducible assumption) | assumption)
    have q235 : x5_1 < (l1.length : Int) := of_decide_eq_true (by first | (with_reducible assumption) | assumption)
    obtain ⟨ad235, e235, hx235_0, hx235_1, hx235_2⟩ := at_T117 HR1.out x5_1 p235 q235
    cases e235
    replace p235 := eq_true p235
    replace q235 := eq_true q235
    go_wp2
    repeat (go_quiet (fail); try go_wp2)
    go_ret
    exact ⟨by first | rfl | (simp; done) | (simp [*]; done), by repeat (first | exact Drawn0.refl _ | apply Drawn0.step)⟩
   rw [if_neg c7] at H
   have c7b0 : (!(((rd_T117 l0 x5_1).f0) == ((rd_T117 l1 x5_1).f0)) || (!(((rd_T117 l0 x5_1).f1) == ((rd_T117 l1 x5_1).f1)) || (!((((rd_T117 l0 x5_1).f2).toList) == (((rd_T117 l1 x5_1).f2).toList))))) = false := by simpa using c7
   clear c7
   have H' := Aside0.mk H
   clear H
   have p234 : 0 ≤ (x5_1 : Int) := of_decide_eq_true (by first | (with_reducible assumption) | assumption)
   have q234 : x5_1 < (l0.length : Int) := of_decide_eq_true (by first | (with_reducible assumption) | assumption)
   obtain ⟨ad234, e234, hx234_0, hx234_1, hx234_2⟩ := at_T117 HR0.out x5_1 p234 q234
   cases e234
   replace p234 := eq_true p234
   replace q234 := eq_true q234
   have p235 : 0 ≤ (x5_1 : Int) := of_decide_eq_true (by first | (with_reducible assumption) | assumption)
   have q235 : x5_1 < (l1.length : Int) := of_decide_eq_true (by first | (with_reducible assumption) | assumption)
   obtain ⟨ad235, e235, hx235_0, hx235_1, hx235_2⟩ := at_T117 HR1.out x5_1 p235 q235
   cases e235
   replace p235 := eq_true p235
   replace q235 := eq_true q235
   go_wp2
   repeat (go_quiet (fail); try go_wp2)
   go_roundg k1
   case measure => have := HK1.out; omega
   case rel => exact ⟨(wrap64 (x5_1 + 1)), (by first | rfl | (simp; done) | (simp [*]; done)), H', ⟨by have := HK1.out; omega⟩, by repeat (first | exact Drawn0.refl _ | apply Drawn0.step)⟩
end Go.Proofs.Ytjlegibfeenglaa.XF
