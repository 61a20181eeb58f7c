-- written by wip/xprint.py out of the translation
import Derived.Test.YtjlegibfeenglaaXFp0
import Derived.Test.YtjlegibfeenglaaXFp6
namespace Go.Proofs.Ytjlegibfeenglaa.XF
open Go.Proofs.Ytjlegibfeenglaa.XGrow Go.RowKit Go.Proofs.YtjlegibfeenglaaW.PrintWords Go.Proofs.YtjlegibfeenglaaW.PrintLast Go.Proofs.YtjlegibfeenglaaW.PrintMore
attribute [local go_sem] max2_int min2_int max_two min_two max_three min_three max_four min_four   -- for this text's walks alone
set_option linter.unusedVariables false
set_option linter.unusedSimpArgs false

/-! ### trans_Same: function 100 -/
-- USES semblance/trans.sameAct
-- USES slices.Equal[[]semblance/api.Term,semblance/api.Term]
-- USES slices.EqualFunc[[]semblance/api.Act,[]semblance/api.Act,semblance/api.Act,semblance/api.Act]
def trans_Same.eqT (x y : S117) : Bool := (x.f0 == y.f0) && ((x.f1 == y.f1) && (x.f2.toList == y.f2.toList))
def trans_Same.eqTs (a b : List (S117)) : Bool := decide (a.length = b.length) && (List.range a.length).all fun j => trans_Same.eqT (a.getD j z117) (b.getD j z117)
def trans_Same.eqA (x y : S130) : Bool := decide (x.f0.toList = y.f0.toList) && ((x.f1 == y.f1) && trans_Same.eqTs x.f2 y.f2)
def trans_Same.eq (a0 : ByteArray) (a1 : List (S117)) (a2 : List (S130)) (a3 : ByteArray) (b0 : ByteArray) (b1 : List (S117)) (b2 : List (S130)) (b3 : ByteArray) : Bool :=
  decide (a0.toList = b0.toList) && (decide (a3.toList = b3.toList) && (trans_Same.eqTs a1 b1 && EqualFunc_Act.val trans_Same.eqA a2 b2))
def trans_Same.f (a0 : ByteArray) (a1 : List (S117)) (a2 : List (S130)) (a3 : ByteArray) (b0 : ByteArray) (b1 : List (S117)) (b2 : List (S130)) (b3 : ByteArray) : Option Bool := some (trans_Same.eq a0 a1 a2 a3 b0 b1 b2 b3)
open Go.Proofs.Ytjlegibfeenglaa.XFuel in
theorem trans_Same.terms_ex (x0 x1 : List (S117)) (he : x0.length = x1.length) (hb : x0.length ≤ 9223372036854775807) : ∀ (d n : Nat), x0.length - n = d → n ≤ x0.length →
    Ev (fun k => api_Term.l0 k x0 x1 (x0.length : Int) (n : Int)) (((List.range x0.length).drop n).all fun j => trans_Same.eqT (x0.getD j z117) (x1.getD j z117)) := by
  intro d
  induction d with
  | zero =>
    intro n hd hn
    rw [List.drop_of_length_le (by simp; omega)]
    have h1 : ¬ ((n : Int) < (x0.length : Int)) := by omega
    apply Ev.succ
    simp only [api_Term.l0, h1, if_false]
    exact Ev.now _
  | succ d ih =>
    intro n hd hn
    have h1 : (n : Int) < (x0.length : Int) := by omega
    have h2 : (0 : Int) ≤ (n : Int) := by omega
    have h3 : (n : Int) < (x1.length : Int) := by omega
    have hg : n < (List.range x0.length).length := by simp; omega
    have hn1 := ih (n + 1) (by omega) (by omega)
    rw [List.drop_eq_getElem_cons hg, List.getElem_range, List.all_cons]
    have r0 : rd_T117 x0 (n : Int) = x0.getD n z117 := by unfold rd_T117; rw [Int.toNat_natCast]
    have r1 : rd_T117 x1 (n : Int) = x1.getD n z117 := by unfold rd_T117; rw [Int.toNat_natCast]
    apply Ev.succ
    simp only [api_Term.l0, h1, h2, h3, if_true, r0, r1]
    generalize x0.getD n z117 = x
    generalize x1.getD n z117 = y
    have hc : (!(x.f0 == y.f0) || (!(x.f1 == y.f1) || (!(x.f2.toList == y.f2.toList)))) = !(trans_Same.eqT x y) := by unfold trans_Same.eqT; rw [Bool.not_and, Bool.not_and]
    cases hq : trans_Same.eqT x y with
    | true =>
      simp only [hc, hq, Bool.not_true, Bool.false_eq_true, if_false, Bool.true_and]
      rw [wrap_succ (by omega)]
      exact hn1
    | false =>
      simp only [hc, hq, Bool.not_false, if_true, Bool.false_and]
      exact Ev.now _
open Go.Proofs.Ytjlegibfeenglaa.XFuel in
theorem trans_Same.terms_f (x0 x1 : List (S117)) (hb : x0.length ≤ 9223372036854775807) : Ev (fun k => api_Term.f k x0 x1) (trans_Same.eqTs x0 x1) := by
  unfold trans_Same.eqTs
  by_cases he : x0.length = x1.length
  · have he' : (x0.length : Int) = (x1.length : Int) := by omega
    simp only [api_Term.f, he', if_true, decide_eq_true he, Bool.true_and]
    rw [← he']
    have := trans_Same.terms_ex x0 x1 he hb x0.length 0 (by omega) (by omega)
    rw [List.drop_zero] at this
    exact this
  · have he' : ¬ ((x0.length : Int) = (x1.length : Int)) := by omega
    simp only [api_Term.f, he', if_false, decide_eq_false he, Bool.false_and]
    exact Ev.now _
open Go.Proofs.Ytjlegibfeenglaa.XFuel in
theorem trans_Same.act_f (x y : S130) (hb : x.f2.length ≤ 9223372036854775807) : Ev (fun k => trans_sameAct.f k x.f0 x.f1 x.f2 y.f0 y.f1 y.f2) (trans_Same.eqA x y) := by
  unfold trans_Same.eqA
  by_cases h0 : x.f0.toList = y.f0.toList
  · cases h1 : (x.f1 == y.f1) with
    | true =>
      simp only [trans_sameAct.f, h0, h1, if_true, decide_true, Bool.true_and]
      exact Ev.bind (trans_Same.terms_f _ _ hb) (Ev.now _)
    | false =>
      simp only [trans_sameAct.f, h0, h1, if_true, decide_true, Bool.true_and, Bool.false_and, Bool.false_eq_true, if_false]
      exact Ev.now _
  · simp only [trans_sameAct.f, h0, if_false, decide_false, Bool.false_and]
    exact Ev.now _
set_option maxHeartbeats 1000000 in
theorem trans_Same.act_calls (W : World) (x y : S130) (A2 : Option Addr) (c2 : Nat) (B2 : Option Addr) (d2 : Nat) (hx : k130.K W x [.string x.f0, .bool x.f1, .slice A2 x.f2.length c2]) (hy : k130.K W y [.string y.f0, .bool y.f1, .slice B2 y.f2.length d2]) :
    Calls Try.prog 115 (#[.agg #[.string x.f0, .bool x.f1, .slice A2 x.f2.length c2], .agg #[.string y.f0, .bool y.f1, .slice B2 y.f2.length d2]] ++ #[]) W fun e w' => e = .returned (.bool (trans_Same.eqA x y)) ∧ Below W.heap.size W w' := by
  obtain ⟨A, c, e, l2, g2⟩ := k130_open hx
  obtain ⟨B, d, e', m2, h2⟩ := k130_open hy
  simp at e e'
  obtain ⟨rfl, rfl⟩ := e
  obtain ⟨rfl, rfl⟩ := e'
  obtain ⟨K, hK⟩ := trans_Same.act_f x y g2.2.1
  rw [Array.append_empty]
  exact trans_sameAct.calls K _ _ _ _ _ _ _ _ _ _ _ W g2 l2 h2 m2 (hK K (Nat.le_refl _))
set_option maxHeartbeats 4000000 in
set_option maxRecDepth 100000 in
theorem trans_Same.calls (a0_0 : ByteArray) (A0_1 : Option Addr) (c0_1 : Nat) (l0_1 : List (S117)) (A0_2 : Option Addr) (c0_2 : Nat) (l0_2 : List (S130)) (a0_3 : ByteArray) (a1_0 : ByteArray) (A1_1 : Option Addr) (c1_1 : Nat) (l1_1 : List (S117)) (A1_2 : Option Addr) (c1_2 : Nat) (l1_2 : List (S130)) (a1_3 : ByteArray) (r : Bool) (w : World)
    (hr0_1 : Kd.C k117 w A0_1 l0_1.length l0_1) (hc0_1 : l0_1.length ≤ c0_1) (hr0_2 : Kd.C k130 w A0_2 l0_2.length l0_2) (hc0_2 : l0_2.length ≤ c0_2) (hr1_1 : Kd.C k117 w A1_1 l1_1.length l1_1) (hc1_1 : l1_1.length ≤ c1_1) (hr1_2 : Kd.C k130 w A1_2 l1_2.length l1_2) (hc1_2 : l1_2.length ≤ c1_2)
    (h : trans_Same.f a0_0 l0_1 l0_2 a0_3 a1_0 l1_1 l1_2 a1_3 = some r) :
    Calls Try.prog 100 #[.agg #[.string a0_0, .slice A0_1 l0_1.length c0_1, .slice A0_2 l0_2.length c0_2, .string a0_3], .agg #[.string a1_0, .slice A1_1 l1_1.length c1_1, .slice A1_2 l1_2.length c1_2, .string a1_3]] w fun e w' => e = .returned (.bool r) ∧ Below w.heap.size w w' := by
  have hu := Try.underlying102
  unfold trans_Same.f at h
  have H := Option.some.inj h
  clear h
  unfold trans_Same.eq at H
  have eg := Go.Proofs.enters_of Try.func115 (by kernel_rfl) rfl
  obtain ⟨K, hK⟩ := trans_Same.terms_f l0_1 l1_1 hr0_1.2.1
  have hterms := fun W (hW : Below w.heap.size w W) => api_Term.calls K A0_1 c0_1 l0_1 A1_1 c1_1 l1_1 (trans_Same.eqTs l0_1 l1_1) W (Kd.C_below hr0_1 hW) hc0_1 (Kd.C_below hr1_1 hW) hc1_1 (hK K (Nat.le_refl _))
  have hacts := fun W (hW : Below w.heap.size w W) => EqualFunc_Act.calls trans_Same.eqA 115 #[] eg A0_2 c0_2 l0_2 A1_2 c1_2 l1_2 W (Kd.C_below hr0_2 hW) (Kd.C_below hr1_2 hW)
    (fun W2 h2 x y _ _ A2 c2 B2 d2 hx hy => (trans_Same.act_calls W2 x y A2 c2 B2 d2 hx hy).mono fun e w' ⟨he, hw⟩ => ⟨he, below_then h2 h2.size hw⟩)
  have HT := Aside0.mk hterms
  have HA := Aside0.mk hacts
  clear hterms hacts hr0_1 hr0_2 hr1_1 hr1_2 eg hK
  generalize trans_Same.eqTs l0_1 l1_1 = bt at *
  generalize EqualFunc_Act.val trans_Same.eqA l0_2 l1_2 = ba at *
  have HB := Aside0.mk (((Below.refl w.heap.size w).alloc (Nat.le_refl _) (.cells #[.string a0_0, .slice A0_1 l0_1.length c0_1, .slice A0_2 l0_2.length c0_2, .string a0_3] 102)).alloc (by rw [World.size_alloc]; exact Nat.le_succ _) (.cells #[.string a1_0, .slice A1_1 l1_1.length c1_1, .slice A1_2 l1_2.length c1_2, .string a1_3] 102))
  by_cases h0 : a0_0.toList = a1_0.toList
  · have b0 : (a0_0.toList == a1_0.toList) = true := beq_iff_eq.mpr h0
    rw [decide_eq_true h0, Bool.true_and] at H
    clear h0
    by_cases h3 : a0_3.toList = a1_3.toList
    · have b3 : (a0_3.toList == a1_3.toList) = true := beq_iff_eq.mpr h3
      rw [decide_eq_true h3, Bool.true_and] at H
      clear h3
      have HH := Aside0.mk H
      clear H
      cases bt with
      | true =>
        go_enter Try.func100, Try.ntmps100
        go_wp2_with (first | (go_at_call 113; refine (HT.out _ HB.out).mono ?_; rintro e w' ⟨rfl, ⟨m, rfl⟩⟩) | (go_at_call 114; refine (HA.out _ (pw_below_drewN HB.out m)).mono ?_; rintro e w' ⟨rfl, hb⟩))
        go_ret
        exact ⟨by rw [← HH.out]; rfl, below_then (pw_below_drewN HB.out m) (pw_below_drewN HB.out m).size hb⟩
      | false =>
        go_enter Try.func100, Try.ntmps100
        go_wp2_with (go_at_call 113; refine (HT.out _ HB.out).mono ?_; rintro e w' ⟨rfl, ⟨m, rfl⟩⟩)
        go_ret
        exact ⟨by rw [← HH.out]; rfl, pw_below_drewN HB.out m⟩
    · have b3 : (a0_3.toList == a1_3.toList) = false := beq_eq_false_iff_ne.mpr h3
      rw [decide_eq_false h3, Bool.false_and] at H
      have HH := Aside0.mk H
      clear h3 H
      go_enter Try.func100, Try.ntmps100
      go_wp2
      go_ret
      exact ⟨by rw [← HH.out]; rfl, HB.out⟩
  · have b0 : (a0_0.toList == a1_0.toList) = false := beq_eq_false_iff_ne.mpr h0
    rw [decide_eq_false h0, Bool.false_and] at H
    have HH := Aside0.mk H
    clear h0 H
    go_enter Try.func100, Try.ntmps100
    go_wp2
    go_ret
    exact ⟨by rw [← HH.out]; rfl, HB.out⟩


/-! ### diff_acts: function 98 -/
def diff_acts.f (l0 : List (S130)) (l1 : List (S130)) : Option (Bool) := (trans_Same.f (⟨#[]⟩ : ByteArray) ([] : List (S117)) l0 (⟨#[]⟩ : ByteArray) (⟨#[]⟩ : ByteArray) ([] : List (S117)) l1 (⟨#[]⟩ : ByteArray)).bind fun t148 => (some t148)
set_option maxHeartbeats 8000000 in
set_option maxRecDepth 100000 in
theorem diff_acts.calls (A0 : Option Addr) (c0 : Nat) (l0 : List (S130)) (A1 : Option Addr) (c1 : Nat) (l1 : List (S130)) (r : Bool) (w : World) (hr0 : Kd.C k130 w A0 l0.length l0) (hc0 : l0.length ≤ c0) (hr1 : Kd.C k130 w A1 l1.length l1) (hc1 : l1.length ≤ c1) (h : diff_acts.f l0 l1 = some r) :
  Calls Try.prog 98 #[.slice A0 l0.length c0, .slice A1 l1.length c1] w fun e w' => e = .returned (.bool r) ∧ Below w.heap.size w w' := by
 have hu102 := Try.underlying102
 have HR0 := Aside0.mk hr0
 have HC0 := Aside0.mk hc0
 clear hr0 hc0
 have HR1 := Aside0.mk hr1
 have HC1 := Aside0.mk hc1
 clear hr1 hc1
 have HB := Aside0.mk (Below.refl w.heap.size w)
 have H : ((trans_Same.f (⟨#[]⟩ : ByteArray) ([] : List (S117)) l0 (⟨#[]⟩ : ByteArray) (⟨#[]⟩ : ByteArray) ([] : List (S117)) l1 (⟨#[]⟩ : ByteArray)).bind fun t148 => (some t148)) = some r := h
 clear h
 replace H := Option.bind_eq_some_iff.mp H
 obtain ⟨t148, A30, H⟩ := H
 replace H : (some t148) = some r := H
 have A3 := Aside0.mk A30
 clear A30
 obtain rfl := Option.some.inj H
 go_enter Try.func98, Try.ntmps98
 go_wp2_with (first | ((with_reducible refine gate_callee (f := 100) rfl ?_); refine goesL_ (some 9) rfl rfl Try.func100 (by kernel_rfl) rfl #[.agg #[.string (⟨#[]⟩ : ByteArray), .slice none 0 0, .slice A0 l0.length c0, .string (⟨#[]⟩ : ByteArray)], .agg #[.string (⟨#[]⟩ : ByteArray), .slice none 0 0, .slice A1 l1.length c1, .string (⟨#[]⟩ : ByteArray)]] rfl (by (try simp only [List.map_toArray, List.map_cons, List.map_nil]); first | done | rfl | (simp only [List.length_drop, List.length_take]; rfl)) ?_; (refine (trans_Same.calls (⟨#[]⟩ : ByteArray) _ _ ([] : List (S117)) _ _ l0 (⟨#[]⟩ : ByteArray) (⟨#[]⟩ : ByteArray) _ _ ([] : List (S117)) _ _ l1 (⟨#[]⟩ : ByteArray) t148 _ ?side1 ?side2 ?side3 ?side4 ?side5 ?side6 ?side7 ?side8 A3.out).mono ?_); (case side1 => exact Kd.C_nil _ _); (case side2 => exact Nat.le_refl _); (case side3 => repeat (first | exact HR0.out | (with_reducible refine Kd.C_alloc ?_ _) | (with_reducible refine Kd.C_drewN ?_ _) | (with_reducible refine Kd.C_drew ?_))); (case side4 => exact HC0.out); (case side5 => exact Kd.C_nil _ _); (case side6 => exact Nat.le_refl _); (case side7 => repeat (first | exact HR1.out | (with_reducible refine Kd.C_alloc ?_ _) | (with_reducible refine Kd.C_drewN ?_ _) | (with_reducible refine Kd.C_drew ?_))); (case side8 => exact HC1.out); rintro e w4 ⟨rfl, hb⟩; refine ⟨_, rfl, ?_⟩; have n0_ := Aside0.mk (below_step (brw HB.out) hb); clear HB; have HB := n0_; clear n0_; (try clear hb); (try clear hb2); (try clear hk); (try clear hi)))
 go_ret
 exact ⟨by first | rfl | (simp [errW_none, errW_some] <;> rfl) | (simp [*, errW_none, errW_some] <;> rfl), by repeat (first | (with_reducible first | exact HB.out | apply below_alloc | apply pw_below_drewN | apply below_drew1) | exact HB.out)⟩

/-! ### api_Trans: function 99 -/
def EqualFunc_Trans.val (p : S102 → S102 → Bool) (l0 l1 : List (S102)) : Bool := decide (l0.length = l1.length) && (List.range l0.length).all fun j => p (l0.getD j z102) (l1.getD j z102)
theorem EqualFunc_Trans.val_no (p : S102 → S102 → Bool) (l0 l1 : List (S102)) (n : Nat) (hn : n < l0.length) (h : p (l0.getD n z102) (l1.getD n z102) = false) : EqualFunc_Trans.val p l0 l1 = false := by
  unfold EqualFunc_Trans.val
  rw [Bool.and_eq_false_iff]
  right
  rw [List.all_eq_false]
  exact ⟨n, List.mem_range.2 hn, by rw [h]; simp⟩
theorem EqualFunc_Trans.val_yes (p : S102 → S102 → Bool) (l0 l1 : List (S102)) (he : l0.length = l1.length) (h : ∀ j : Nat, j < l0.length → p (l0.getD j z102) (l1.getD j z102) = true) : EqualFunc_Trans.val p l0 l1 = true := by
  unfold EqualFunc_Trans.val
  rw [decide_eq_true he, Bool.true_and, List.all_eq_true]
  exact fun j hj => h j (List.mem_range.1 hj)
set_option maxHeartbeats 2000000 in
set_option maxRecDepth 100000 in
theorem EqualFunc_Trans.calls (p : S102 → S102 → Bool) (g : Nat) (lb : Array Value) (eg : ∀ args w, (callFunc g args).run Try.prog w = .ok (.enter g args) w) (A0 : Option Addr) (c0 : Nat) (l0 : List (S102)) (A1 : Option Addr) (c1 : Nat) (l1 : List (S102)) (w : World) (hr0 : Kd.C k102 w A0 l0.length l0) (hr1 : Kd.C k102 w A1 l1.length l1)
    (hp : ∀ W, Below w.heap.size w W → ∀ (x y : S102), x ∈ l0 → y ∈ l1 → ∀ (A1 : Option Addr) (c1 : Nat) (B1 : Option Addr) (d1 : Nat) (A2 : Option Addr) (c2 : Nat) (B2 : Option Addr) (d2 : Nat), k102.K W x [.string x.f0, .slice A1 x.f1.length c1, .slice A2 x.f2.length c2, .string x.f3] → k102.K W y [.string y.f0, .slice B1 y.f1.length d1, .slice B2 y.f2.length d2, .string y.f3] → Calls Try.prog g (#[.agg #[.string x.f0, .slice A1 x.f1.length c1, .slice A2 x.f2.length c2, .string x.f3], .agg #[.string y.f0, .slice B1 y.f1.length d1, .slice B2 y.f2.length d2, .string y.f3]] ++ lb) W fun e w' => e = .returned (.bool (p x y)) ∧ Below w.heap.size w w') :
    Calls Try.prog 99 #[.slice A0 l0.length c0, .slice A1 l1.length c1, .func (.func g) #[] lb] w fun e w' => e = .returned (.bool (EqualFunc_Trans.val p l0 l1)) ∧ Below w.heap.size w w' := by
  have hbig := hr0.2.1
  have hbig1 := hr1.2.1
  have HR := Aside0.mk hr0
  have HR1 := Aside0.mk hr1
  have HPF := Aside0.mk hp
  clear hr0 hr1 hp
  have hu := Try.underlying102
  by_cases hne : l0.length = l1.length
  rotate_left
  · have hv : EqualFunc_Trans.val p l0 l1 = false := by unfold EqualFunc_Trans.val; rw [decide_eq_false hne, Bool.false_and]
    have hd : ((l0.length : Int) != (l1.length : Int)) = true := by rw [bne_iff_ne]; omega
    have hd2 : (l0.length != l1.length) = true := by rw [bne_iff_ne]; omega
    have hd3 : ((l0.length : Int) == (l1.length : Int)) = false := by rw [beq_eq_false_iff_ne]; omega
    have hd4 : (l0.length == l1.length) = false := by rw [beq_eq_false_iff_ne]; omega
    rw [hv]
    have HN := Aside0.mk hne
    clear hv hne
    go_enter Try.func99, Try.ntmps99
    go_wp2
    go_ret
    exact ⟨rfl, Below.refl _ _⟩
  generalize hv : EqualFunc_Trans.val p l0 l1 = v
  have HV := Aside0.mk hv
  have hd : ((l0.length : Int) != (l1.length : Int)) = false := by rw [hne]; simp
  have HNE := Aside0.mk hne
  rw [← hne]
  clear hv hne
  go_enter Try.func99, Try.ntmps99
  go_wp2
  go_loopg [17] l0.length (fun kq v17 wr => ∃ n : Nat, Aside0 (n ≤ l0.length) ∧ Aside0 (l0.length - n = kq) ∧ v17 = .int .i64 (n : Int) ∧ Aside0 (Below w.heap.size w wr) ∧ Aside0 (∀ j : Nat, j < n → p (l0.getD j z102) (l1.getD j z102) = true))
  case atStart => exact ⟨0, ⟨Nat.zero_le _⟩, ⟨by omega⟩, rfl, ⟨Below.refl _ _⟩, ⟨fun j hj => absurd hj (Nat.not_lt_zero _)⟩⟩
  case round =>
    obtain ⟨n, HN, HK, rfl, HB, HP⟩ := hrel
    by_cases hlt : n < l0.length
    · have hlt' : decide ((n : Int) < (l0.length : Int)) = true := decide_eq_true (by omega)
      have hlt1 : n < l1.length := by have := HNE.out; omega
      have hC := Kd.C_below HR.out HB.out
      have hC1 := Kd.C_below HR1.out HB.out
      obtain ⟨ad, A1, c1, A2, c2, e0, hx0, hx1, hx2, hx3, hl1, hg1, hl2, hg2⟩ := at_T102 hC (n : Int) (by omega) (by omega)
      obtain ⟨bd, B1, d1, B2, d2, e1, hy0, hy1, hy2, hy3, hm1, hh1, hm2, hh2⟩ := at_T102 hC1 (n : Int) (by omega) (by omega)
      subst e0
      subst e1
      rw [Int.toNat_natCast] at hx0 hx1 hx2 hx3 hy0 hy1 hy2 hy3
      have hz0 : rd_T102 l0 (n : Int) = l0.getD n z102 := by unfold rd_T102; rw [Int.toNat_natCast]
      have hz1 : rd_T102 l1 (n : Int) = l1.getD n z102 := by unfold rd_T102; rw [Int.toNat_natCast]
      rw [hz0] at hx0 hx1 hx2 hx3 hl1 hg1 hl2 hg2
      rw [hz1] at hy0 hy1 hy2 hy3 hm1 hh1 hm2 hh2
      have hmem : l0.getD n z102 ∈ l0 := by simp only [List.getD, List.getElem?_eq_getElem hlt, Option.getD_some]; exact List.getElem_mem hlt
      have hmem1 : l1.getD n z102 ∈ l1 := by simp only [List.getD, List.getElem?_eq_getElem hlt1, Option.getD_some]; exact List.getElem_mem hlt1
      have hcall := fun W' (hW : Below wr.heap.size wr W') => HPF.out W' (below_then HB.out HB.out.size hW) (l0.getD n z102) (l1.getD n z102) hmem hmem1 A1 c1 B1 d1 A2 c2 B2 d2 (k102.K_below hW (k102_mk _ _ hl1 hg1 hl2 hg2)) (k102.K_below hW (k102_mk _ _ hm1 hh1 hm2 hh2))
      generalize hx : l0.getD n z102 = x at *
      generalize hy : l1.getD n z102 = y at *
      have HX := Aside0.mk hx
      have HY := Aside0.mk hy
      have HC := Aside0.mk hcall
      clear hx hy hC hC1 hz0 hz1 hmem hmem1 hcall hl1 hg1 hl2 hg2 hm1 hh1 hm2 hh2
      have hw0 := fun o => (World.cell?_alloc_some wr _ o (by rw [hy0]; rfl)).trans hy0
      have hw1 := fun o => (World.cell?_alloc_some wr _ o (by rw [hy1]; rfl)).trans hy1
      have hw2 := fun o => (World.cell?_alloc_some wr _ o (by rw [hy2]; rfl)).trans hy2
      have hw3 := fun o => (World.cell?_alloc_some wr _ o (by rw [hy3]; rfl)).trans hy3
      cases hq : p x y with
      | true =>
        rw [hq] at HC
        have HQ := Aside0.mk hq
        clear hq
        go_wp2_with fail
        refine (HC.out _ ?hW).mono ?_
        case hW => exact ((Below.refl _ _).alloc (Nat.le_refl _) _).alloc (by rw [World.size_alloc]; exact Nat.le_succ _) _
        rintro e w' ⟨rfl, hb'⟩
        clear hx0 hy0 hw0 hx1 hy1 hw1 hx2 hy2 hw2 hx3 hy3 hw3
        go_wp2
        go_roundg (l0.length - (n + 1))
        case measure => have := HK.out; omega
        case rel =>
          refine ⟨n + 1, ⟨hlt⟩, ⟨rfl⟩, by go_num, ⟨hb'⟩, ⟨fun j hj => ?_⟩⟩
          by_cases e : j = n
          · subst e; rw [HX.out, HY.out]; exact HQ.out
          · exact HP.out j (by omega)
      | false =>
        rw [hq] at HC
        have HQ := Aside0.mk hq
        clear hq
        go_wp2_with fail
        refine (HC.out _ ?hW).mono ?_
        case hW => exact ((Below.refl _ _).alloc (Nat.le_refl _) _).alloc (by rw [World.size_alloc]; exact Nat.le_succ _) _
        rintro e w' ⟨rfl, hb'⟩
        clear hx0 hy0 hw0 hx1 hy1 hw1 hx2 hy2 hw2 hx3 hy3 hw3
        go_wp2
        go_ret
        refine ⟨?_, hb'⟩
        rw [← HV.out, EqualFunc_Trans.val_no p l0 l1 n hlt (by rw [HX.out, HY.out]; exact HQ.out)]
        rfl
    · have hlt' : decide ((n : Int) < (l0.length : Int)) = false := decide_eq_false (by omega)
      have hn : n = l0.length := by have := HN.out; omega
      have HNN := Aside0.mk hn
      clear hn
      go_wp2
      go_ret
      exact ⟨by rw [← HV.out, EqualFunc_Trans.val_yes p l0 l1 HNE.out (fun j hj => HP.out j (by have := HNN.out; omega))]; rfl, HB.out⟩
-- FAKE semblance/trans.Same
-- USES semblance/trans.Same
def api_Trans.eqR (x y : S102) : Bool := trans_Same.eq x.f0 x.f1 x.f2 x.f3 y.f0 y.f1 y.f2 y.f3
def api_Trans.f (l0 l1 : List (S102)) (_ : Int) : Option Bool := some (EqualFunc_Trans.val api_Trans.eqR l0 l1)
set_option maxHeartbeats 1000000 in
theorem api_Trans.same_calls (W : World) (x y : S102) (A1 : Option Addr) (c1 : Nat) (B1 : Option Addr) (d1 : Nat) (A2 : Option Addr) (c2 : Nat) (B2 : Option Addr) (d2 : Nat) (hx : k102.K W x [.string x.f0, .slice A1 x.f1.length c1, .slice A2 x.f2.length c2, .string x.f3]) (hy : k102.K W y [.string y.f0, .slice B1 y.f1.length d1, .slice B2 y.f2.length d2, .string y.f3]) :
    Calls Try.prog 100 (#[.agg #[.string x.f0, .slice A1 x.f1.length c1, .slice A2 x.f2.length c2, .string x.f3], .agg #[.string y.f0, .slice B1 y.f1.length d1, .slice B2 y.f2.length d2, .string y.f3]] ++ #[]) W fun e w' => e = .returned (.bool (api_Trans.eqR x y)) ∧ Below W.heap.size W w' := by
  obtain ⟨P1, p1, P2, p2, e, l1, g1, l2, g2⟩ := k102_open hx
  obtain ⟨Q1, q1, Q2, q2, e', m1, h1, m2, h2⟩ := k102_open hy
  simp at e e'
  obtain ⟨⟨rfl, rfl⟩, rfl, rfl⟩ := e
  obtain ⟨⟨rfl, rfl⟩, rfl, rfl⟩ := e'
  rw [Array.append_empty]
  exact trans_Same.calls _ _ _ _ _ _ _ _ _ _ _ _ _ _ _ _ _ W g1 l1 g2 l2 h1 m1 h2 m2 rfl
theorem api_Trans.calls (A0 : Option Addr) (c0 : Nat) (l0 : List (S102)) (A1 : Option Addr) (c1 : Nat) (l1 : List (S102)) (a2 : Int) (r : Bool) (w : World) (hr0 : Kd.C k102 w A0 l0.length l0) (hc0 : l0.length ≤ c0) (hr1 : Kd.C k102 w A1 l1.length l1) (hc1 : l1.length ≤ c1)
    (h : api_Trans.f l0 l1 a2 = some r) :
    Calls Try.prog 99 #[.slice A0 l0.length c0, .slice A1 l1.length c1, .func (.func 100) #[] #[]] w fun e w' => e = .returned (.bool r) ∧ Below w.heap.size w w' := by
  obtain rfl := Option.some.inj h
  have eg := Go.Proofs.enters_of Try.func100 (by kernel_rfl) rfl
  exact EqualFunc_Trans.calls _ _ #[] eg A0 c0 l0 A1 c1 l1 w hr0 hr1 fun W hW x y _ _ A1 c1 B1 d1 A2 c2 B2 d2 hx hy => (api_Trans.same_calls W x y A1 c1 B1 d1 A2 c2 B2 d2 hx hy).mono fun e w' ⟨he, hw⟩ => ⟨he, below_then hW hW.size hw⟩


end Go.Proofs.Ytjlegibfeenglaa.XF
