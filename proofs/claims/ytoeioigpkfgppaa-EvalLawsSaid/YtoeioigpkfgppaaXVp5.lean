-- written by wip/xprint.py out of the translation
import Derived.Test.YtoeioigpkfgppaaXVp0
import Derived.Test.YtoeioigpkfgppaaXVp4
namespace Go.Proofs.Ytoeioigpkfgppaa.XV
open Go.Proofs.Ytoeioigpkfgppaa.XGrow Go.RowKit Go.Proofs.YtoeioigpkfgppaaW.PrintWords Go.Proofs.YtoeioigpkfgppaaW.PrintLast Go.Proofs.YtoeioigpkfgppaaW.PrintMore
attribute [local go_sem] max2_int min2_int max_two min_two max_three min_three max_four min_four   -- for this text's walks alone
set_option linter.unusedVariables false
set_option linter.unusedSimpArgs false

/-! ### api_Var: function 93 -/
open Go.Proofs.Ytoeioigpkfgppaa.XFind in
set_option maxHeartbeats 2000000 in
set_option maxRecDepth 100000 in
theorem IndexFunc_Var.calls (p : S51 → Bool) (g : Nat) (lb : Array Value) (eg : ∀ args w, (callFunc g args).run Try.prog w = .ok (.enter g args) w) (A0 : Option Addr) (c0 : Nat) (l0 : List (S51)) (w : World) (hr0 : Kd.C k51 w A0 l0.length l0)
    (hp : ∀ W, Below w.heap.size w W → ∀ (x : S51), x ∈ l0 → Calls Try.prog g (#[.agg #[.string x.f0, .int .i64 x.f1, .int .i64 x.f2, .int .i64 x.f3]] ++ lb) W fun e w' => e = .returned (.bool (p x)) ∧ Below w.heap.size w w') :
    Calls Try.prog 93 #[.slice A0 l0.length c0, .func (.func g) #[] lb] w fun e w' => e = .returned (.int .i64 (idxF p l0)) ∧ Below w.heap.size w w' := by
  have hbig := hr0.2.1
  have HR := Aside0.mk hr0
  have HPF := Aside0.mk hp
  clear hr0 hp
  have hu := Try.underlying51
  go_enter Try.func93, Try.ntmps93
  go_wp2
  go_loopg [8] l0.length (fun kq v8 wr => ∃ n : Nat, Aside0 (n ≤ l0.length) ∧ Aside0 (l0.length - n = kq) ∧ v8 = .int .i64 (n : Int) ∧ Aside0 (Below w.heap.size w wr) ∧ Aside0 (∀ j : Nat, j < n → p (l0.getD j z51) = false))
  case atStart => exact ⟨0, ⟨Nat.zero_le _⟩, ⟨by omega⟩, rfl, ⟨Below.refl _ _⟩, ⟨fun j hj => absurd hj (Nat.not_lt_zero _)⟩⟩
  case round =>
    obtain ⟨n, HN, HK, rfl, HB, HP⟩ := hrel
    by_cases hlt : n < l0.length
    · have hlt' : decide ((n : Int) < (l0.length : Int)) = true := decide_eq_true (by omega)
      have hC := Kd.C_below HR.out HB.out
      obtain ⟨ad, e1, hx0, hx1, hx2, hx3⟩ := at_T51 hC (n : Int) (by omega) (by omega)
      subst e1
      rw [Int.toNat_natCast] at hx0 hx1 hx2 hx3
      have hy0 : rd_T51 l0 (n : Int) = l0.getD n z51 := by unfold rd_T51; rw [Int.toNat_natCast]
      rw [hy0] at hx0 hx1 hx2 hx3
      have hmem : l0.getD n z51 ∈ l0 := by simp only [List.getD, List.getElem?_eq_getElem hlt, Option.getD_some]; exact List.getElem_mem hlt
      have hcall := HPF.out wr HB.out (l0.getD n z51) hmem
      generalize hy : l0.getD n z51 = y at *
      have HY := Aside0.mk hy
      clear hy hC hy0 hmem
      cases hq : p y with
      | true =>
        rw [hq] at hcall
        have HC := Aside0.mk hcall
        have HQ := Aside0.mk hq
        clear hcall hq
        go_wp2_with fail
        refine HC.out.mono ?_
        rintro e w' ⟨rfl, hb'⟩
        go_wp2
        go_ret
        refine ⟨?_, hb'⟩
        rw [idxF_hit p l0 z51 n hlt (by rw [HY.out]; exact HQ.out) HP.out]
        rfl
      | false =>
        rw [hq] at hcall
        have HC := Aside0.mk hcall
        have HQ := Aside0.mk hq
        clear hcall hq
        go_wp2_with fail
        refine HC.out.mono ?_
        rintro e w' ⟨rfl, hb'⟩
        go_wp2
        go_roundg (l0.length - (n + 1))
        case measure => have := HK.out; omega
        case rel =>
          refine ⟨n + 1, ⟨hlt⟩, ⟨rfl⟩, by go_num, ⟨hb'⟩, ⟨fun j hj => ?_⟩⟩
          by_cases e : j = n
          · subst e; rw [HY.out]; exact HQ.out
          · exact HP.out j (by omega)
    · have hlt' : decide ((n : Int) < (l0.length : Int)) = false := decide_eq_false (by omega)
      have hn : n = l0.length := by have := HN.out; omega
      have HNN := Aside0.mk hn
      clear hn
      go_wp2
      go_ret
      exact ⟨by rw [idxF_miss p l0 z51 (fun j hj => HP.out j (by have := HNN.out; omega))]; rfl, HB.out⟩


/-! ### eval_place: function 56 -/
-- USES slices.IndexFunc[[]semblance/api.Var,semblance/api.Var]
open Go.Proofs.Ytoeioigpkfgppaa.XFind in
/-- the place of a variable -/
def eval_place.f (l0_0 : List (S51)) (a0_1 a0_2 a0_3 a0_4 : Int) (l0_5 : List ByteArray) (a1 : ByteArray) : Option Int := some (Go.Proofs.Ytoeioigpkfgppaa.XFind.idxF (fun x => x.f0.toList == a1.toList) l0_0)
set_option maxHeartbeats 2000000 in
theorem eval_place.lit (B : Nat) (s : ByteArray) (x : S51) (W : World) (hc : W.cell? ⟨B, 0, none⟩ = some (.string s)) :
    Calls Try.prog 94 #[.agg #[.string x.f0, .int .i64 x.f1, .int .i64 x.f2, .int .i64 x.f3], .pointer (some ⟨B, 0, none⟩)] W fun e w' => e = .returned (.bool (x.f0.toList == s.toList)) ∧ Below W.heap.size W w' := by
  have hb : Below W.heap.size W (W.alloc (.cells #[.string x.f0, .int .i64 x.f1, .int .i64 x.f2, .int .i64 x.f3] 51)) := (Below.refl _ _).alloc (Nat.le_refl _) _
  have hc2 := (hb.cell (p := ⟨B, 0, none⟩) (World.block_lt_of_cell? W _ hc)).trans hc
  go_enter Try.func94, Try.ntmps94
  go_wp2
  go_ret
  exact ⟨rfl, (Below.refl _ _).alloc (Nat.le_refl _) _⟩
open Go.Proofs.Ytoeioigpkfgppaa.XFind in
set_option maxHeartbeats 2000000 in
theorem eval_place.calls (A0_0 : Option Addr) (c0_0 : Nat) (l0_0 : List (S51)) (a0_1 : Int) (a0_2 : Int) (a0_3 : Int) (a0_4 : Int) (A0_5 : Option Addr) (c0_5 : Nat) (l0_5 : List ByteArray) (a1 : ByteArray) (r : Int) (w : World) (hr0_0 : Kd.C k51 w A0_0 l0_0.length l0_0) (hc0_0 : l0_0.length ≤ c0_0) (hr0_5 : Kd.C Kd.string w A0_5 l0_5.length l0_5) (hc0_5 : l0_5.length ≤ c0_5) (h : eval_place.f l0_0 a0_1 a0_2 a0_3 a0_4 l0_5 a1 = some r) :
    Calls Try.prog 56 #[.agg #[.slice A0_0 l0_0.length c0_0, .int .i64 a0_1, .int .i64 a0_2, .int .i64 a0_3, .int .i64 a0_4, .slice A0_5 l0_5.length c0_5], .string a1] w fun e w' => e = .returned (.int .i64 r) ∧ Below w.heap.size w w' := by
  have H := Option.some.inj h
  clear h
  have eg := Go.Proofs.enters_of Try.func94 (by kernel_rfl) rfl
  obtain ⟨w1, hw1⟩ : ∃ w1, w1 = w.alloc (.cells #[.slice A0_0 l0_0.length c0_0, .int .i64 a0_1, .int .i64 a0_2, .int .i64 a0_3, .int .i64 a0_4, .slice A0_5 l0_5.length c0_5] 36) := ⟨_, rfl⟩
  have hb1 : Below w.heap.size w w1 := by rw [hw1]; exact (Below.refl _ _).alloc (Nat.le_refl _) _
  have hk1 : w1.heap[w.heap.size]? = some (.cells #[.slice A0_0 l0_0.length c0_0, .int .i64 a0_1, .int .i64 a0_2, .int .i64 a0_3, .int .i64 a0_4, .slice A0_5 l0_5.length c0_5] 36 (0, 0)) := by rw [hw1]; exact heap_alloc_new w _
  have hs1 : w1.heap.size = w.heap.size + 1 := by rw [hw1]; simp
  have hb2 : Below w1.heap.size w1 (w1.alloc (.cells #[.string a1] 9)) := (Below.refl _ _).alloc (Nat.le_refl _) _
  have hc0 : (w1.alloc (.cells #[.string a1] 9)).cell? ⟨w.heap.size, 0, none⟩ = some (.slice A0_0 l0_0.length c0_0) := (hb2.cell (p := ⟨w.heap.size, 0, none⟩) (by simp; omega)).trans ((blk_cell hk1 0).trans rfl)
  have hcs := cell_of_one (heap_alloc_new w1 (.cells #[.string a1] 9))
  rw [hs1] at hcs
  have hcall := IndexFunc_Var.calls (fun x => x.f0.toList == a1.toList) 94 #[.pointer (some ⟨w.heap.size + 1, 0, none⟩)] eg A0_0 c0_0 l0_0 (w1.alloc (.cells #[.string a1] 9)) (Kd.C_below (Kd.C_below hr0_0 hb1) hb2)
    (fun W2 h2 x _ => (eval_place.lit (w.heap.size + 1) a1 x W2 ((h2.cell (p := ⟨w.heap.size + 1, 0, none⟩) (by simp; omega)).trans hcs)).mono fun e w' ⟨he, hw⟩ => ⟨he, h2.trans (hw.mono h2.size)⟩)
  generalize idxF (fun x => x.f0.toList == a1.toList) l0_0 = i at hcall H
  have HC := Aside0.mk hcall
  have HH := Aside0.mk H
  clear hcall hr0_0 hr0_5 H hcs
  subst hw1
  go_enter Try.func56, Try.ntmps56
  go_wp2_with (go_at_call 93; refine HC.out.mono ?_; rintro e w' ⟨rfl, hb3⟩)
  go_ret
  exact ⟨by rw [← HH.out]; rfl, hb1.trans ((hb2.trans (hb3.mono hb2.size)).mono hb1.size)⟩


/-! ### eval_Check: function 18 -/
-- USES semblance/eval.place
-- USES semblance/term.Check
-- USES semblance/term.Type
-- USES semblance/term.Names
-- USES slices.ContainsFunc[[]string,string]
open Go.Proofs.Ytoeioigpkfgppaa.XFind in
/-- is no variable of that name there? -/
def eval_Check.no (l1_0 : List (S51)) (s : ByteArray) : Bool := decide (Go.Proofs.Ytoeioigpkfgppaa.XFind.idxF (fun x => x.f0.toList == s.toList) l1_0 < 0)
def eval_Check.f (k : Nat) (l0 : List (S47)) (l1_0 : List (S51)) (a1_1 a1_2 a1_3 a1_4 : Int) (l1_5 : List ByteArray) : Option Int :=
  if (l1_0.length : Int) > 4 then some 1 else (term_Check.f k l0).bind fun e => if e = 0 then ((term_Type.f k l0).bind fun t => if t = 0 then some 4 else ((term_Names.f k l0 2).bind fun ns => if ns.length ≤ 9223372036854775807 then some (if ns.any (eval_Check.no l1_0) = true then 7 else 0) else none)) else some e
theorem eval_Check.mono : ∀ a0 a1 a2 a3 a4 a5 a6 k, LeO (eval_Check.f k a0 a1 a2 a3 a4 a5 a6) (eval_Check.f (k + 1) a0 a1 a2 a3 a4 a5 a6) := by
  intro a0 a1 a2 a3 a4 a5 a6 k
  unfold eval_Check.f
  exact LeO.ite (LeO.refl _) (LeO.bind (term_Check.mono a0 k) (fun e => LeO.ite (LeO.bind (term_Type.mono a0 k) (fun t => LeO.ite (LeO.refl _) (LeO.bind (term_Names.mono a0 2 k) (fun ns => LeO.refl _)))) (LeO.refl _)))
set_option maxHeartbeats 2000000 in
theorem eval_Check.lit (B : Nat) (A1_0 : Option Addr) (c1_0 : Nat) (l1_0 : List (S51)) (a1_1 : Int) (a1_2 : Int) (a1_3 : Int) (a1_4 : Int) (A1_5 : Option Addr) (c1_5 : Nat) (l1_5 : List ByteArray) (s : ByteArray) (W : World) (hr1_0 : Kd.C k51 W A1_0 l1_0.length l1_0) (hc1_0 : l1_0.length ≤ c1_0) (hr1_5 : Kd.C Kd.string W A1_5 l1_5.length l1_5) (hc1_5 : l1_5.length ≤ c1_5)
    (hk : W.heap[B]? = some (.cells #[.slice A1_0 l1_0.length c1_0, .int .i64 a1_1, .int .i64 a1_2, .int .i64 a1_3, .int .i64 a1_4, .slice A1_5 l1_5.length c1_5] 36 (0, 0))) :
    Calls Try.prog 55 #[.string s, .pointer (some ⟨B, 0, none⟩)] W fun e w' => e = .returned (.bool (eval_Check.no l1_0 s)) ∧ Below W.heap.size W w' := by
  obtain ⟨hcz0, hcz1, hcz2, hcz3, hcz4, hcz5⟩ := cz6_ hk
  obtain ⟨hfz0, hfz1, hfz2, hfz3, hfz4, hfz5⟩ := cf6_ hk
  have HC := Aside0.mk (eval_place.calls A1_0 c1_0 l1_0 a1_1 a1_2 a1_3 a1_4 A1_5 c1_5 l1_5 s _ W hr1_0 hc1_0 hr1_5 hc1_5 rfl)
  have hu36 := Try.underlying36
  clear hr1_0 hr1_5 hk
  go_enter Try.func55, Try.ntmps55
  go_wp2_with (go_at_call 56; refine HC.out.mono ?_; rintro e w' ⟨rfl, hb⟩)
  go_ret
  exact ⟨rfl, hb⟩
set_option maxHeartbeats 2000000 in
theorem eval_Check.calls (k : Nat) (A0 : Option Addr) (c0 : Nat) (l0 : List (S47)) (A1_0 : Option Addr) (c1_0 : Nat) (l1_0 : List (S51)) (a1_1 : Int) (a1_2 : Int) (a1_3 : Int) (a1_4 : Int) (A1_5 : Option Addr) (c1_5 : Nat) (l1_5 : List ByteArray) (r : Int) (w : World) (hr0 : Kd.C k47 w A0 l0.length l0) (hc0 : l0.length ≤ c0) (hr1_0 : Kd.C k51 w A1_0 l1_0.length l1_0) (hc1_0 : l1_0.length ≤ c1_0) (hr1_5 : Kd.C Kd.string w A1_5 l1_5.length l1_5) (hc1_5 : l1_5.length ≤ c1_5) (h : eval_Check.f k l0 l1_0 a1_1 a1_2 a1_3 a1_4 l1_5 = some r) :
    Calls Try.prog 18 #[.slice A0 l0.length c0, .agg #[.slice A1_0 l1_0.length c1_0, .int .i64 a1_1, .int .i64 a1_2, .int .i64 a1_3, .int .i64 a1_4, .slice A1_5 l1_5.length c1_5]] w fun e w' => e = .returned (.int .i64 r) ∧ Below w.heap.size w w' := by
  unfold eval_Check.f at h
  obtain ⟨w1, hw1⟩ : ∃ w1, w1 = w.alloc (.cells #[.slice A1_0 l1_0.length c1_0, .int .i64 a1_1, .int .i64 a1_2, .int .i64 a1_3, .int .i64 a1_4, .slice A1_5 l1_5.length c1_5] 36) := ⟨_, rfl⟩
  have hb1 : Below w.heap.size w w1 := by rw [hw1]; exact (Below.refl _ _).alloc (Nat.le_refl _) _
  have hk1 : w1.heap[w.heap.size]? = some (.cells #[.slice A1_0 l1_0.length c1_0, .int .i64 a1_1, .int .i64 a1_2, .int .i64 a1_3, .int .i64 a1_4, .slice A1_5 l1_5.length c1_5] 36 (0, 0)) := by rw [hw1]; exact heap_alloc_new w _
  have hs1 : w1.heap.size = w.heap.size + 1 := by rw [hw1]; simp
  have hcz0 := (blk_cell hk1 0).trans rfl
  have HB1 := Aside0.mk hb1
  have HK1 := Aside0.mk hk1
  have HS1 := Aside0.mk hs1
  clear hb1 hk1 hs1
  by_cases c1 : (l1_0.length : Int) > 4
  · rw [if_pos c1] at h
    have c1b : decide ((l1_0.length : Int) > 4) = true := decide_eq_true c1
    obtain rfl := Option.some.inj h
    subst hw1
    go_enter Try.func18, Try.ntmps18
    go_wp2
    go_ret
    exact ⟨rfl, HB1.out⟩
  rw [if_neg c1] at h
  have c1b : decide ((l1_0.length : Int) > 4) = false := decide_eq_false c1
  clear c1
  obtain ⟨e, he, h⟩ := Option.bind_eq_some_iff.mp h
  have HC1 := Aside0.mk (term_Check.calls k A0 c0 l0 e w1 (Kd.C_below hr0 HB1.out) hc0 he)
  clear he
  by_cases c2 : e = 0
  · rw [if_pos c2] at h
    subst c2
    obtain ⟨t, ht, h⟩ := Option.bind_eq_some_iff.mp h
    have HC2 := Aside0.mk (fun W (hW : Below w.heap.size w W) => term_Type.calls k A0 c0 l0 t W (Kd.C_below hr0 hW) hc0 ht)
    clear ht
    by_cases c3 : t = 0
    · rw [if_pos c3] at h
      subst c3
      obtain rfl := Option.some.inj h
      clear hr0 hr1_0 hr1_5 h
      subst hw1
      go_enter Try.func18, Try.ntmps18
      go_wp2_with (first | (go_at_call 51; refine HC1.out.mono ?_; rintro e w2 ⟨rfl, hb2⟩; have HB2 := Aside0.mk (HB1.out.trans (hb2.mono HB1.out.size)); clear hb2) | (go_at_call 52; refine (HC2.out _ HB2.out).mono ?_; rintro e w3 ⟨rfl, hb3⟩; have HB3 := Aside0.mk (HB2.out.trans (hb3.mono HB2.out.size)); clear hb3))
      go_ret
      exact ⟨rfl, HB3.out⟩
    · rw [if_neg c3] at h
      have c3b : (t == 0) = false := beq_eq_false_iff_ne.mpr c3
      clear c3
      obtain ⟨ns, hns, h⟩ := Option.bind_eq_some_iff.mp h
      have HC3 := Aside0.mk (fun W (hW : Below w.heap.size w W) => term_Names.calls k A0 c0 l0 2 ns W (Kd.C_below hr0 hW) hc0 hns)
      split at h
      case isFalse => cases h
      case isTrue hlen =>
      have eg := Go.Proofs.enters_of Try.func55 (by kernel_rfl) rfl
      have HC4 := Aside0.mk (fun W (hW : Below w1.heap.size w1 W) (A c) (hC : Kd.C Kd.string W A ns.length ns) => ContainsFunc_str.calls (eval_Check.no l1_0) 55 #[.pointer (some ⟨w.heap.size, 0, none⟩)] eg A c ns W hC hlen
        (fun W2 h2 s => (eval_Check.lit w.heap.size A1_0 c1_0 l1_0 a1_1 a1_2 a1_3 a1_4 A1_5 c1_5 l1_5 s W2 (Kd.C_below hr1_0 ((HB1.out.trans (hW.mono HB1.out.size)).trans (h2.mono (Nat.le_trans HB1.out.size hW.size)))) hc1_0 (Kd.C_below hr1_5 ((HB1.out.trans (hW.mono HB1.out.size)).trans (h2.mono (Nat.le_trans HB1.out.size hW.size)))) hc1_5
          ((h2.block w.heap.size (by have := HS1.out; have := hW.size; omega)).trans ((hW.block w.heap.size (by have := HS1.out; omega)).trans HK1.out))).mono fun e w' ⟨he, hw⟩ => ⟨he, h2.trans (hw.mono h2.size)⟩))
      generalize hany : ns.any (eval_Check.no l1_0) = b at h HC4
      have HH := Aside0.mk h
      clear hr0 hr1_0 hr1_5 h hany hns
      subst hw1
      go_enter Try.func18, Try.ntmps18
      cases b
      · obtain rfl : r = 0 := by have := Option.some.inj HH.out; simpa using this.symm
        go_wp2_with (first | (go_at_call 51; refine HC1.out.mono ?_; rintro e w2 ⟨rfl, hb2⟩; have HB12 := Aside0.mk hb2; have HB2 := Aside0.mk (HB1.out.trans (hb2.mono HB1.out.size)); clear hb2) | (go_at_call 52; refine (HC2.out _ HB2.out).mono ?_; rintro e w3 ⟨rfl, hb3⟩; have HB13 := Aside0.mk (HB12.out.trans (hb3.mono HB12.out.size)); have HB3 := Aside0.mk (HB2.out.trans (hb3.mono HB2.out.size)); clear hb3) | (go_at_call 54; refine (HC3.out _ HB3.out).mono ?_; rintro e w4 ⟨v4, rfl, hR4, hb4⟩; obtain ⟨A4, c4, rfl, hcl4, hC4⟩ := Kd.R_reads hR4; have HR4 := Aside0.mk hC4; have HB14 := Aside0.mk (HB13.out.trans (hb4.mono HB13.out.size)); have HB4 := Aside0.mk (HB3.out.trans (hb4.mono HB3.out.size)); clear hb4 hR4 hC4) | (go_at_call 53; refine (HC4.out _ HB14.out _ _ HR4.out).mono ?_; rintro e w5 ⟨rfl, hb5⟩; have HB5 := Aside0.mk (HB4.out.trans (hb5.mono HB4.out.size)); clear hb5))
        go_ret
        exact ⟨rfl, HB5.out⟩
      · obtain rfl : r = 7 := by have := Option.some.inj HH.out; simpa using this.symm
        go_wp2_with (first | (go_at_call 51; refine HC1.out.mono ?_; rintro e w2 ⟨rfl, hb2⟩; have HB12 := Aside0.mk hb2; have HB2 := Aside0.mk (HB1.out.trans (hb2.mono HB1.out.size)); clear hb2) | (go_at_call 52; refine (HC2.out _ HB2.out).mono ?_; rintro e w3 ⟨rfl, hb3⟩; have HB13 := Aside0.mk (HB12.out.trans (hb3.mono HB12.out.size)); have HB3 := Aside0.mk (HB2.out.trans (hb3.mono HB2.out.size)); clear hb3) | (go_at_call 54; refine (HC3.out _ HB3.out).mono ?_; rintro e w4 ⟨v4, rfl, hR4, hb4⟩; obtain ⟨A4, c4, rfl, hcl4, hC4⟩ := Kd.R_reads hR4; have HR4 := Aside0.mk hC4; have HB14 := Aside0.mk (HB13.out.trans (hb4.mono HB13.out.size)); have HB4 := Aside0.mk (HB3.out.trans (hb4.mono HB3.out.size)); clear hb4 hR4 hC4) | (go_at_call 53; refine (HC4.out _ HB14.out _ _ HR4.out).mono ?_; rintro e w5 ⟨rfl, hb5⟩; have HB5 := Aside0.mk (HB4.out.trans (hb5.mono HB4.out.size)); clear hb5))
        go_ret
        exact ⟨rfl, HB5.out⟩
  · rw [if_neg c2] at h
    obtain rfl := Option.some.inj h
    have c2b : (e != 0) = true := bne_iff_ne.mpr c2
    clear hr0 hr1_0 hr1_5 h c2
    subst hw1
    go_enter Try.func18, Try.ntmps18
    go_wp2_with (go_at_call 51; refine HC1.out.mono ?_; rintro e w2 ⟨rfl, hb2⟩; have HB2 := Aside0.mk (HB1.out.trans (hb2.mono HB1.out.size)); clear hb2)
    go_ret
    exact ⟨rfl, HB2.out⟩


/-! ### eval_stack_push: function 43 -/
/-- block B holds the stack's numbers, in a row of the call's own (from n₀ on) -/
def eval_st.At (n₀ : Nat) (W : World) (B : Nat) (xs : List Int) : Prop := ∃ v, Boxed W B 75 v ∧ W.ownsRow n₀ 3 1 v xs.length (xs.map (Value.int .i64))
/-- what a call on the stack leaves as it is -/
def eval_st.Goes (n₀ B : Nat) (W W' : World) : Prop := KeepsOthers W W' ∧ Below n₀ W W' ∧ ∀ K cs t f, K ≠ B → t ≠ 3 → W.heap[K]? = some (.cells cs t f) → W'.heap[K]? = some (.cells cs t f)
theorem eval_st.Goes.trans {n₀ B : Nat} {U V W : World} (h : eval_st.Goes n₀ B U V) (k : eval_st.Goes n₀ B V W) : eval_st.Goes n₀ B U W := ⟨h.1.trans k.1, h.2.1.trans k.2.1, fun K cs t f h1 h2 h3 => k.2.2 K cs t f h1 h2 (h.2.2 K cs t f h1 h2 h3)⟩
theorem eval_st.Goes.drew (n₀ B : Nat) (W : World) : eval_st.Goes n₀ B W W.drew := ⟨KeepsOthers.drew W, (Below.refl _ _).drew, fun _ _ _ _ _ _ h => h⟩
theorem eval_st.Goes.below {n₀ B : Nat} {W W' : World} (hb : Below W.heap.size W W') (hn : n₀ ≤ W.heap.size) : eval_st.Goes n₀ B W W' :=
  ⟨⟨hb.size, fun k o hk _ => (hb.block k (Array.getElem?_eq_some_iff.1 hk).1).trans hk⟩, hb.mono hn, fun K cs t f _ _ hk => (hb.block K (Array.getElem?_eq_some_iff.1 hk).1).trans hk⟩
theorem eval_st.At.drew {n₀ B : Nat} {W : World} {xs : List Int} (h : eval_st.At n₀ W B xs) : eval_st.At n₀ W.drew B xs := by
  obtain ⟨v, hv, hr⟩ := h
  exact ⟨v, hv, hr.drew⟩
theorem eval_st.At.below {n₀ B : Nat} {W W' : World} {xs : List Int} (h : eval_st.At n₀ W B xs) (hb : Below W.heap.size W W') : eval_st.At n₀ W' B xs := by
  obtain ⟨v, hv, hr⟩ := h
  refine ⟨v, (hb.block B hv.lt).trans hv, hr.kept (row := none) ⟨hb.os, hb.tape, hb.output, hb.size, fun k hk _ => hb.block k hk⟩ ?_⟩
  rcases hr.2 with ⟨rfl, _⟩ | ⟨g, cap, cur, rfl, _, hgb, _⟩
  · exact .inl rfl
  · exact .inr (by simp [Value.ownBlock])
theorem eval_st.At.alloc {n₀ B : Nat} {W : World} {xs : List Int} (h : eval_st.At n₀ W B xs) (o : Obj) : eval_st.At n₀ (W.alloc o) B xs := by
  obtain ⟨v, hv, hr⟩ := h
  exact ⟨v, hv.alloc o, hr.alloc o⟩
theorem eval_st.keeps_push {W w1 : World} {n₀ B k : Nat} {v v' : Value} {xs : List Value} {tmp : Obj} (hrow : W.ownsRow n₀ 3 1 v k xs) (hgrow : (W.alloc tmp).grownBy w1 v.ownBlock) :
    ∀ K cs t f, K ≠ B → t ≠ 3 → W.heap[K]? = some (.cells cs t f) → (w1.setCell ⟨B, 0, none⟩ v').heap[K]? = some (.cells cs t f) := by
  intro K cs t f hKB ht hK
  have hlt := (Array.getElem?_eq_some_iff.1 hK).1
  have h1 : (W.alloc tmp).heap[K]? = some (.cells cs t f) := (Below.heap_alloc _ _ _ hlt).trans hK
  have h2 : w1.heap[K]? = some (.cells cs t f) := by
    refine (hgrow.block K (by simp; omega) ?_).trans h1
    rcases hrow.2 with ⟨rfl, _⟩ | ⟨g, cap, cur, rfl, _, hgb, _⟩
    · simp [Value.ownBlock]
    · intro e'
      obtain rfl : K = g := by simpa [Value.ownBlock] using e'
      rw [hK] at hgb
      simp at hgb
      exact ht hgb.2.1
  exact (Below.heap_setCell _ _ _ _ (fun e => hKB e)).trans h2
theorem eval_st.info3 : (Try.prog.info? 3).map (fun i => (i.zero, i.size, i.bytes)) = some (some (.int .i64 0), 1, 8) := by kernel_rfl
section
attribute [local go_sem] Oper.semAt_some
open Go.Shelf
set_option maxHeartbeats 2000000 in
set_option maxRecDepth 100000 in
theorem eval_st.push (n₀ B : Nat) (xs : List Int) (x : Int) (W : World) (h : eval_st.At n₀ W B xs) (hlen : xs.length ≤ 1000) (hn : n₀ ≤ W.heap.size) (hB : n₀ ≤ B) :
    Calls Try.prog 43 #[.pointer (some ⟨B, 0, none⟩), .int .i64 x] W fun e W' => (∃ u, e = .returned u) ∧ eval_st.At n₀ W' B (xs ++ [x]) ∧ eval_st.Goes n₀ B W W' := by
  obtain ⟨v, hv, hrow⟩ := h
  obtain ⟨i0, hi, hz0, hz1, hz2⟩ := info_parts eval_st.info3
  have hc := hv.cell
  refine (callsIn_wide (n := 3)).1 ?_
  refine callsIn_of_wp Try.func43 rfl trivial ?_ rfl
  simp only [Try.ntmps43, List.size_toArray, List.length_cons, List.length_nil, Nat.reduceAdd, Nat.reduceSub, Array.replicate_succ, Array.replicate_zero, List.push_toArray, List.append_toArray, List.nil_append, List.cons_append]
  gi_wp2_with (gi_at_builtin; refine wpListIn_append_own _ rfl _ _ 75 rfl n₀ 3 i0 (.int .i64 0) 1 8 Try.underlying75 hi hz0 hz1 hz2 rfl (by decide) _ _ _ rfl (hrow.alloc _) ⟨W.heap.size, 0, none⟩ 1 1 [.int .i64 x] rfl rfl (cell_one_new _ _ _) (by simp [Value.oneCell']) (by simp [maxLen]; omega) (by omega) (by simp; omega) ?_; intro v' w1 hown' hgrow _; obtain ⟨g', cap', rfl⟩ := ownsRow_succ hown'; obtain ⟨hv1, hv2, hr2, hk2, hb2⟩ := hv.appended (by decide) hrow hn hB hown' hgrow; have hc1 := hv1.cell; have hf1 := hv1.frozen; have hkp := eval_st.keeps_push (B := B) hrow hgrow (v' := .slice (some ⟨g', 0, none⟩) (xs.length + 1) cap'))
  go_end0
  exact ⟨⟨_, rfl⟩, ⟨_, hv2, by simpa using hr2⟩, hk2, hb2, hkp⟩
end


/-! ### eval_stack_pop: function 45 -/
-- USES (*semblance/eval.stack).push
set_option maxHeartbeats 2000000 in
set_option maxRecDepth 100000 in
theorem eval_st.pop (n₀ B : Nat) (xs : List Int) (x : Int) (W : World) (h : eval_st.At n₀ W B (xs ++ [x])) (hlen : xs.length ≤ 1000) (hn : n₀ ≤ W.heap.size) (hB : n₀ ≤ B) :
    Calls Try.prog 45 #[.pointer (some ⟨B, 0, none⟩)] W fun e W' => e = .returned (.int .i64 x) ∧ eval_st.At n₀ W' B xs ∧ eval_st.Goes n₀ B W W' := by
  obtain ⟨v, hv, hrow⟩ := h
  have hl : (xs ++ [x]).length = xs.length + 1 := by simp
  rw [hl] at hrow
  obtain ⟨g, cap, rfl⟩ := ownsRow_succ hrow
  have hc := hv.cell
  have hf := hv.frozen
  have hR : (Kd.int .i64).R 3 W n₀ (fun _ => True) (.slice (some ⟨g, 0, none⟩) (xs.length + 1) cap) (xs ++ [x]) := Kd.R_of_own (by rw [hl]; exact hrow) (fun _ _ => trivial)
  obtain ⟨A, c, e, hcl, hC⟩ := Kd.R_reads hR
  rw [hl] at e hC hcl
  injection e with e1 e2 e3
  subst e1 e3
  obtain ⟨ad, e4, hx⟩ := Kd.at_int hC (xs.length : Int) (by omega) (by omega)
  obtain rfl := Option.some.inj e4
  have hrd : rd (xs ++ [x]) (xs.length : Int) = x := by simp [rd]
  rw [hrd, Int.toNat_natCast] at hx
  have hx2 : W.cell? ⟨g, xs.length, none⟩ = some (.int .i64 x) := by rw [show (⟨g, xs.length, none⟩ : Addr) = (⟨g, 0, none⟩ : Addr).add xs.length by unfold Addr.add; split <;> simp_all]; exact hx
  have hsub : wrap64 (((xs.length + 1 : Nat) : Int) - 1) = (xs.length : Int) := by unfold wrap64; omega
  have hsub2 : ((xs.length + 1 : Nat) : Int) - 1 = (xs.length : Int) := by omega
  have htk := own_take (m := xs.length) hrow (Nat.le_succ _)
  have hne := hv.not_row (by decide) hrow
  go_enter Try.func45, Try.ntmps45
  go_wp2
  go_ret
  have htk2 : W.ownsRow n₀ 3 1 (.slice (some ⟨g, 0, none⟩) xs.length cap) xs.length (xs.map (Value.int .i64)) := by simpa using htk
  exact ⟨rfl, ⟨_, hv.set _, htk2.kept (grownBy_setCell' W B _) (.inr fun e => hne (by rw [← e]; rfl))⟩, KeepsOthers.setCell _ _ _, (Below.refl _ _).setCell (p := ⟨B, 0, none⟩) hB _, fun K cs t f h1 _ h3 => (Below.heap_setCell _ _ _ _ (fun e => h1 e)).trans h3⟩


/-! ### api_Term_42: function 42 -/
-- USES (*semblance/eval.stack).pop
/-- a term as a value -/
abbrev eval_tm (x : S47) : Value := .agg #[.int .i64 x.f0, .int .i64 x.f1, .string x.f2]
section
attribute [local go_sem] Oper.semAt_some
open Go.Shelf
set_option maxHeartbeats 1000000 in
theorem eval_back.made (n : Nat) (A : Option Addr) (c m : Nat) (w : World) :
    CallsIn Fence.wide n Try.prog 42 #[.slice A m c] w fun e w' => e = .returned (.func (.func 77) #[] #[.pointer (some ⟨w.heap.size, 0, none⟩)]) ∧ w' = w.alloc (.cells #[.slice A m c] 33) := by
  refine callsIn_of_wp Try.func42 rfl trivial ?_ rfl
  simp only [Try.ntmps42, List.size_toArray, List.length_cons, List.length_nil, Nat.reduceAdd, Nat.reduceSub, Array.replicate_succ, Array.replicate_zero, List.push_toArray, List.append_toArray, List.nil_append, List.cons_append]
  gi_wp2
  go_ret
  exact ⟨rfl, rfl⟩
/-- how many are still to come -/
def eval_back.left : Value → Nat
  | .int _ i => (i + 1).toNat
  | _ => 0
set_option maxRecDepth 100000 in
set_option maxHeartbeats 2000000 in
/-- the terms of a row, from the last one on: J k: k of them have come -/
theorem eval_back.in_ (n : Nat) (hn : 1 ≤ n) (l Bn n₀ : Nat) (A : Option Addr) (c : Nat) (xs : List (S47)) (w0 : World) (hw0 : w0.heap.size = n₀) (hC : Kd.C k47 w0 A xs.length xs) (J : Nat → World → Prop)
    (hY : ∀ k W, (hk : k < xs.length) → J k W → YieldAt Fence.wide (n - 1) Try.prog l #[.int .i64 ((xs.length - 1 - k : Nat) : Int), eval_tm (xs[xs.length - 1 - k]'(by omega))] W fun e W' => e = .returned (.bool true) ∧ J (k + 1) W' ∧ Below n₀ W W' ∧ W'.cell? ⟨Bn, 0, none⟩ = W.cell? ⟨Bn, 0, none⟩)
    (W : World) (hBn : W.cell? ⟨Bn, 0, none⟩ = some (.slice A xs.length c)) (hW : Below n₀ w0 W) (h0 : J 0 W) :
    CallsIn Fence.wide n Try.prog 77 #[.func (.yield l) #[] #[], .pointer (some ⟨Bn, 0, none⟩)] W fun e W' => (∃ v, e = .returned v) ∧ J xs.length W' := by
  have hbig : xs.length ≤ 9223372036854775807 := hC.2.1
  have HC := Aside0.mk hC
  clear hC
  refine callsIn_of_wp Try.func77 rfl trivial ?_ rfl
  simp only [Try.ntmps77, List.size_toArray, List.length_cons, List.length_nil, Nat.reduceAdd, Nat.reduceSub, Array.replicate_succ, Array.replicate_zero, List.push_toArray, List.append_toArray, List.nil_append, List.cons_append]
  gi_wp2
  gi_loopw [3] (fun p wr => ∃ k : Nat, p = .int .i64 ((xs.length : Int) - 1 - (k : Int)) ∧ k ≤ xs.length ∧ Aside0 (Below n₀ w0 wr) ∧ wr.cell? ⟨Bn, 0, none⟩ = some (.slice A xs.length c) ∧ J k wr)
    (fun p _ => eval_back.left p)
  case atStart => exact ⟨0, by simp, by omega, ⟨hW⟩, hBn, h0⟩
  case round =>
    obtain ⟨k, rfl, hk, HB, hcell, hJ⟩ := hrel
    by_cases hlt : k < xs.length
    · obtain ⟨j, hj⟩ : ∃ j, j = xs.length - 1 - k := ⟨_, rfl⟩
      have hjl : j < xs.length := by omega
      have e : (xs.length : Int) - 1 - (k : Int) = (j : Int) := by omega
      obtain ⟨fn, tmps, assign, body, hy, hR⟩ := hY k wr hlt hJ
      have hbJ := HB.out
      simp only [← hj] at hy
      rw [e]
      have hCw := Kd.C_below HC.out (hw0 ▸ HB.out)
      obtain ⟨ad, e1, hx0, hx1, hx2⟩ := at_T47 hCw (j : Int) (by omega) (by omega)
      subst e1
      have hrd : rd_T47 xs (j : Int) = xs[j] := by simp [rd_T47, rdOf, hjl]
      rw [hrd, Int.toNat_natCast] at hx0 hx1 hx2
      generalize hgy : xs[j] = y at hx0 hx1 hx2 hy
      clear hrd hCw hgy
      have hge : decide ((j : Int) ≥ 0) = true := decide_eq_true (by omega)
      dsimp only [eval_tm] at hy
      have HE := Aside0.mk e
      have HJJ := Aside0.mk hj
      clear e hj
      gi_wp2
      refine hR.mono ?_
      rintro e W3 ⟨rfl, hJ3, hb3, hcb3⟩
      have hcell3 := hcb3.trans hcell
      gi_wp2
      go_roundw
      case rel => exact ⟨k + 1, by have := HE.out; congr 1; omega, by omega, ⟨HB.out.trans hb3⟩, hcell3, hJ3⟩
      case measure => simp only [eval_back.left]; omega
    · have hge : decide ((xs.length : Int) - 1 - (k : Int) ≥ 0) = false := decide_eq_false (by omega)
      obtain rfl : k = xs.length := by omega
      gi_wp2
      go_end0
      exact ⟨⟨_, rfl⟩, hJ⟩
end


/-! ### val_Clamp: function 102 -/
def val_Clamp.f (a0 : Int) (a1 : Int) (a2 : Int) : Option (Int) := if a0 < a1 then (some a1) else (if a0 > a2 then (some a2) else (some a0))
set_option maxHeartbeats 8000000 in
set_option maxRecDepth 100000 in
theorem val_Clamp.calls (a0 : Int) (a1 : Int) (a2 : Int) (r : Int) (w : World) (h : val_Clamp.f a0 a1 a2 = some r) :
    Calls Try.prog 102 #[.int .i64 a0, .int .i64 a1, .int .i64 a2] w fun e w' => e = .returned (.int .i64 r) ∧ Drawn0 w w' := by
  have H : (if a0 < a1 then (some a1) else (if a0 > a2 then (some a2) else (some a0))) = some r := h
  clear h
  by_cases c4 : a0 < a1
  · rw [if_pos c4] at H
    have c4b0 : decide (a0 < a1) = true := decide_eq_true c4
    clear c4
    obtain rfl := Option.some.inj H
    go_enter Try.func102, Try.ntmps102
    go_wp2
    go_ret
    exact ⟨by first | rfl | (simp; done) | (simp [*]; done), by repeat (first | exact Drawn0.refl _ | apply Drawn0.step)⟩
  · rw [if_neg c4] at H
    have c4b0 : decide (a0 < a1) = false := decide_eq_false c4
    clear c4
    by_cases c5 : a0 > a2
    · rw [if_pos c5] at H
      have c5b0 : decide (a2 < a0) = true := decide_eq_true c5
      clear c5
      obtain rfl := Option.some.inj H
      go_enter Try.func102, Try.ntmps102
      go_wp2
      go_ret
      exact ⟨by first | rfl | (simp; done) | (simp [*]; done), by repeat (first | exact Drawn0.refl _ | apply Drawn0.step)⟩
    · rw [if_neg c5] at H
      have c5b0 : decide (a2 < a0) = false := decide_eq_false c5
      clear c5
      obtain rfl := Option.some.inj H
      go_enter Try.func102, Try.ntmps102
      go_wp2
      go_ret
      exact ⟨by first | rfl | (simp; done) | (simp [*]; done), by repeat (first | exact Drawn0.refl _ | apply Drawn0.step)⟩

/-! ### val_Near: function 78 -/
def val_Near.f (a0 : Int) : Option (Int) := (val_Clamp.f a0 (-1000000) 1000000).bind fun t130 => (some t130)
set_option maxHeartbeats 8000000 in
set_option maxRecDepth 100000 in
theorem val_Near.calls (a0 : Int) (r : Int) (w : World) (h : val_Near.f a0 = some r) :
    Calls Try.prog 78 #[.int .i64 a0] w fun e w' => e = .returned (.int .i64 r) ∧ Drawn0 w w' := by
  have H : ((val_Clamp.f a0 (-1000000) 1000000).bind fun t130 => (some t130)) = some r := h
  clear h
  replace H := Option.bind_eq_some_iff.mp H
  obtain ⟨t130, A20, H⟩ := H
  replace H : (some t130) = some r := H
  have A2 := Aside0.mk A20
  clear A20
  obtain rfl := Option.some.inj H
  go_enter Try.func78, Try.ntmps78
  go_wp2_with (first | ((with_reducible refine gate_callee (f := 102) rfl ?_); refine goesL_ (some 4) rfl rfl Try.func102 (by kernel_rfl) rfl #[.int .i64 a0, .int .i64 (-1000000), .int .i64 1000000] rfl (by (try simp only [List.map_toArray, List.map_cons, List.map_nil]); first | done | rfl | (simp only [List.length_drop, List.length_take]; rfl)) ?_; (with_reducible refine (val_Clamp.calls a0 (-1000000) 1000000 t130 _ A2.out).mono ?_); rintro e w' ⟨rfl, ⟨nd, rfl⟩⟩; refine ⟨_, rfl, ?_⟩))
  go_ret
  exact ⟨by first | rfl | (simp; done) | (simp [*]; done), by repeat (first | exact Drawn0.refl _ | apply Drawn0.step)⟩

/-! ### val_Minus: function 44 -/
def val_Minus.f (a0 : Int) (a1 : Int) : Option (Int) := (val_Near.f a0).bind fun t131 => ((val_Near.f a1).bind fun t132 => ((val_Near.f (wrap64 (t131 - t132))).bind fun t133 => (some t133)))
set_option maxHeartbeats 8000000 in
set_option maxRecDepth 100000 in
theorem val_Minus.calls (a0 : Int) (a1 : Int) (r : Int) (w : World) (h : val_Minus.f a0 a1 = some r) :
    Calls Try.prog 44 #[.int .i64 a0, .int .i64 a1] w fun e w' => e = .returned (.int .i64 r) ∧ Drawn0 w w' := by
  have H : ((val_Near.f a0).bind fun t131 => ((val_Near.f a1).bind fun t132 => ((val_Near.f (wrap64 (t131 - t132))).bind fun t133 => (some t133)))) = some r := h
  clear h
  replace H := Option.bind_eq_some_iff.mp H
  obtain ⟨t131, A30, H⟩ := H
  replace H : ((val_Near.f a1).bind fun t132 => ((val_Near.f (wrap64 (t131 - t132))).bind fun t133 => (some t133))) = some r := H
  have A3 := Aside0.mk A30
  clear A30
  replace H := Option.bind_eq_some_iff.mp H
  obtain ⟨t132, A40, H⟩ := H
  replace H : ((val_Near.f (wrap64 (t131 - t132))).bind fun t133 => (some t133)) = some r := H
  have A4 := Aside0.mk A40
  clear A40
  replace H := Option.bind_eq_some_iff.mp H
  obtain ⟨t133, A50, H⟩ := H
  replace H : (some t133) = some r := H
  have A5 := Aside0.mk A50
  clear A50
  obtain rfl := Option.some.inj H
  go_enter Try.func44, Try.ntmps44
  go_wp2_with (first | ((with_reducible refine gate_callee (f := 78) rfl ?_); refine goesL_ (some 6) rfl rfl Try.func78 (by kernel_rfl) rfl #[.int .i64 a0] rfl (by (try simp only [List.map_toArray, List.map_cons, List.map_nil]); first | done | rfl | (simp only [List.length_drop, List.length_take]; rfl)) ?_; (with_reducible refine (val_Near.calls a0 t131 _ A3.out).mono ?_); rintro e w' ⟨rfl, ⟨nd, rfl⟩⟩; refine ⟨_, rfl, ?_⟩) | ((with_reducible refine gate_callee (f := 78) rfl ?_); refine goesL_ (some 8) rfl rfl Try.func78 (by kernel_rfl) rfl #[.int .i64 a1] rfl (by (try simp only [List.map_toArray, List.map_cons, List.map_nil]); first | done | rfl | (simp only [List.length_drop, List.length_take]; rfl)) ?_; (with_reducible refine (val_Near.calls a1 t132 _ A4.out).mono ?_); rintro e w' ⟨rfl, ⟨nd, rfl⟩⟩; refine ⟨_, rfl, ?_⟩) | ((with_reducible refine gate_callee (f := 78) rfl ?_); refine goesL_ (some 10) rfl rfl Try.func78 (by kernel_rfl) rfl #[.int .i64 (wrap64 (t131 - t132))] rfl (by (try simp only [List.map_toArray, List.map_cons, List.map_nil]); first | done | rfl | (simp only [List.length_drop, List.length_take]; rfl)) ?_; (with_reducible refine (val_Near.calls (wrap64 (t131 - t132)) t133 _ A5.out).mono ?_); rintro e w' ⟨rfl, ⟨nd, rfl⟩⟩; refine ⟨_, rfl, ?_⟩))
  go_ret
  exact ⟨by first | rfl | (simp; done) | (simp [*]; done), by repeat (first | exact Drawn0.refl _ | apply Drawn0.step)⟩

/-! ### eval_bit: function 79 -/
def eval_bit.f (a0 : Bool) : Option (Int) := if a0 = true then (some 1) else (some 0)
set_option maxHeartbeats 8000000 in
set_option maxRecDepth 100000 in
theorem eval_bit.calls (a0 : Bool) (r : Int) (w : World) (h : eval_bit.f a0 = some r) :
    Calls Try.prog 79 #[.bool a0] w fun e w' => e = .returned (.int .i64 r) ∧ Drawn0 w w' := by
  have H : (if a0 = true then (some 1) else (some 0)) = some r := h
  clear h
  by_cases c2 : a0 = true
  · subst c2
    have H1 : (some 1) = some r := by rw [if_pos rfl] at H; exact H
    clear H
    have H := H1
    clear H1
    obtain rfl := Option.some.inj H
    go_enter Try.func79, Try.ntmps79
    go_wp2
    go_ret
    exact ⟨by first | rfl | (simp; done) | (simp [*]; done), by repeat (first | exact Drawn0.refl _ | apply Drawn0.step)⟩
  · replace c2 := Bool.eq_false_iff.mpr c2
    subst c2
    have H1 : (some 0) = some r := by rw [if_neg (show ¬ (false = true) by decide)] at H; exact H
    clear H
    have H := H1
    clear H1
    obtain rfl := Option.some.inj H
    go_enter Try.func79, Try.ntmps79
    go_wp2
    go_ret
    exact ⟨by first | rfl | (simp; done) | (simp [*]; done), by repeat (first | exact Drawn0.refl _ | apply Drawn0.step)⟩

/-! ### slices_Index_string_string: function 103 -/
def slices_Index_string_string.l0 : Nat → List ByteArray → ByteArray → Int → Int → Option (Int)
  | 0, _, _, _, _ => none
  | k + 1, x0, x1, x7, x8 => if x8 < x7 then (if 0 ≤ x8 then (if x8 < (x0.length : Int) then (if x1.toList = (rdOf ByteArray.empty x0 x8).toList then (some x8) else (slices_Index_string_string.l0 k x0 x1 x7 (wrap64 (x8 + 1)))) else (none)) else (none)) else (some (-1))
def slices_Index_string_string.f (k : Nat) (l0 : List ByteArray) (a1 : ByteArray) : Option (Int) := slices_Index_string_string.l0 k l0 a1 (l0.length : Int) 0
theorem slices_Index_string_string.mono_l : ∀ k, (∀ y0 y1 y2 y3, LeO (slices_Index_string_string.l0 k y0 y1 y2 y3) (slices_Index_string_string.l0 (k + 1) y0 y1 y2 y3))
  | 0 => fun _ _ _ _ r h => by simp [slices_Index_string_string.l0] at h
  | k + 1 => by
    have ih0 := slices_Index_string_string.mono_l k
    · intro y0 y1 y2 y3
      unfold slices_Index_string_string.l0
      repeat' first
      | (with_reducible exact ih0 _ _ _ _)
      | (with_reducible exact LeO.refl _)
      | (with_reducible exact LeO.none _)
      | (with_reducible refine LeO.ite ?_ ?_)
      | (with_reducible refine LeO.bind ?_ (fun _ => ?_))
      | exact ih0 _ _ _ _
      | exact LeO.none _
      | refine LeO.ite ?_ ?_
      | refine LeO.bind ?_ (fun _ => ?_)
theorem slices_Index_string_string.mono : ∀ a0 a1 k, LeO (slices_Index_string_string.f k a0 a1) (slices_Index_string_string.f (k + 1) a0 a1) := by
  intro a0 a1 k
  have ih0 := slices_Index_string_string.mono_l k
  unfold slices_Index_string_string.f
  repeat' first
      | (with_reducible exact ih0 _ _ _ _)
      | (with_reducible exact LeO.refl _)
      | (with_reducible exact LeO.none _)
      | (with_reducible refine LeO.ite ?_ ?_)
      | (with_reducible refine LeO.bind ?_ (fun _ => ?_))
      | exact ih0 _ _ _ _
      | exact LeO.none _
      | refine LeO.ite ?_ ?_
      | refine LeO.bind ?_ (fun _ => ?_)
set_option maxHeartbeats 8000000 in
set_option maxRecDepth 100000 in
theorem slices_Index_string_string.calls (k : Nat) (A0 : Option Addr) (c0 : Nat) (l0 : List ByteArray) (a1 : ByteArray) (r : Int) (w : World) (hr0 : Kd.C Kd.string w A0 l0.length l0) (hc0 : l0.length ≤ c0) (h : slices_Index_string_string.f k l0 a1 = some r) :
  Calls Try.prog 103 #[.slice A0 l0.length c0, .string a1] w fun e w' => e = .returned (.int .i64 r) ∧ Drawn0 w w' := by
 have HR0 := Aside0.mk hr0
 have HC0 := Aside0.mk hc0
 clear hr0 hc0
 have H : (slices_Index_string_string.l0 k l0 a1 (l0.length : Int) 0) = some r := h
 clear h
 have H' := Aside0.mk H
 clear H
 go_enter Try.func103, Try.ntmps103
 go_wp2
 go_loopg [8] k (fun kq v8 w' => ∃ (x8_1 : Int), v8 = .int .i64 x8_1 ∧ Aside0 (slices_Index_string_string.l0 kq l0 a1 (l0.length : Int) x8_1 = some r) ∧ Aside0 (kq ≤ k) ∧ Drawn0 w w')
 case atStart => exact ⟨(0), (by first | rfl | (simp; done) | (simp [*]; done)), H', ⟨Nat.le_refl _⟩, by repeat (first | exact Drawn0.refl _ | apply Drawn0.step)⟩
 case round =>
  clear H'
  try clear c1
  try clear p2
  obtain ⟨x8_1, rfl, HA, HK1, ⟨m1, rfl⟩⟩ := hrel
  cases gk with
  | zero => exact absurd HA.out (by simp [slices_Index_string_string.l0])
  | succ k1 =>
   have H := HA.out
   clear HA
   simp only [slices_Index_string_string.l0] at H
   by_cases c3 : x8_1 < (l0.length : Int)
   rotate_left
   ·rw [if_neg c3] at H
    have c3b0 : decide (x8_1 < (l0.length : Int)) = false := decide_eq_false c3
    clear c3
    obtain rfl := Option.some.inj H
    go_wp2
    go_ret
    exact ⟨by first | rfl | (simp; done) | (simp [*]; done), by repeat (first | exact Drawn0.refl _ | apply Drawn0.step)⟩

   rw [if_pos c3] at H
   have c3b0 : decide (x8_1 < (l0.length : Int)) = true := decide_eq_true c3
   clear c3
   by_cases c4 : 0 ≤ x8_1
   rotate_left
   ·rw [if_neg c4] at H
    exact absurd H (by simp)
   rw [if_pos c4] at H
   have c4b0 : decide (0 ≤ x8_1) = true := decide_eq_true c4
   clear c4
   by_cases c5 : x8_1 < (l0.length : Int)
   rotate_left
   ·rw [if_neg c5] at H
    exact absurd H (by simp)
   rw [if_pos c5] at H
   have c5b0 : decide (x8_1 < (l0.length : Int)) = true := decide_eq_true c5
   clear c5
   by_cases c6 : a1.toList = (rdOf ByteArray.empty l0 x8_1).toList
   ·rw [if_pos c6] at H
    have c6b0 : (a1.toList == (rdOf ByteArray.empty l0 x8_1).toList) = true := beq_iff_eq.mpr c6
    have c6b1 : (a1.toList != (rdOf ByteArray.empty l0 x8_1).toList) = false := bne_eq_false_iff_eq.mpr c6
    clear c6
    obtain rfl := Option.some.inj H
    have p134 : 0 ≤ (x8_1 : Int) := of_decide_eq_true (by first | (with_reducible assumption) | assumption)
    have q134 : x8_1 < (l0.length : Int) := of_decide_eq_true (by first | (with_reducible assumption) | assumption)
    obtain ⟨ad134, e134, hx134_0⟩ := Kd.at_string HR0.out x8_1 p134 q134
    cases e134
    replace p134 := eq_true p134
    replace q134 := eq_true q134
    go_wp2
    go_ret
    exact ⟨by first | rfl | (simp; done) | (simp [*]; done), by repeat (first | exact Drawn0.refl _ | apply Drawn0.step)⟩
   rw [if_neg c6] at H
   have c6b0 : (a1.toList == (rdOf ByteArray.empty l0 x8_1).toList) = false := beq_eq_false_iff_ne.mpr c6
   have c6b1 : (a1.toList != (rdOf ByteArray.empty l0 x8_1).toList) = true := bne_iff_ne.mpr c6
   have H' := Aside0.mk H
   clear H
   have p134 : 0 ≤ (x8_1 : Int) := of_decide_eq_true (by first | (with_reducible assumption) | assumption)
   have q134 : x8_1 < (l0.length : Int) := of_decide_eq_true (by first | (with_reducible assumption) | assumption)
   obtain ⟨ad134, e134, hx134_0⟩ := Kd.at_string HR0.out x8_1 p134 q134
   cases e134
   replace p134 := eq_true p134
   replace q134 := eq_true q134
   go_wp2
   go_roundg k1
   case measure => have := HK1.out; omega
   case rel => exact ⟨(wrap64 (x8_1 + 1)), (by first | rfl | (simp; done) | (simp [*]; done)), H', ⟨by have := HK1.out; omega⟩, by repeat (first | exact Drawn0.refl _ | apply Drawn0.step)⟩
/-! ### names_Place: function 80 -/
def names_Place.f (k : Nat) (l0 : List ByteArray) (a1 : ByteArray) : Option (Int) := (slices_Index_string_string.f k l0 a1).bind fun t135 => (some t135)
theorem names_Place.mono : ∀ a0 a1 k, LeO (names_Place.f k a0 a1) (names_Place.f (k + 1) a0 a1) := by
  intro a0 a1 k
  unfold names_Place.f
  repeat' first
      | (with_reducible exact slices_Index_string_string.mono _ _ _)
      | (with_reducible exact LeO.refl _)
      | (with_reducible exact LeO.none _)
      | (with_reducible refine LeO.ite ?_ ?_)
      | (with_reducible refine LeO.bind ?_ (fun _ => ?_))
      | exact slices_Index_string_string.mono _ _ _
      | exact LeO.none _
      | refine LeO.ite ?_ ?_
      | refine LeO.bind ?_ (fun _ => ?_)
set_option maxHeartbeats 8000000 in
set_option maxRecDepth 100000 in
theorem names_Place.calls (k : Nat) (A0 : Option Addr) (c0 : Nat) (l0 : List ByteArray) (a1 : ByteArray) (r : Int) (w : World) (hr0 : Kd.C Kd.string w A0 l0.length l0) (hc0 : l0.length ≤ c0) (h : names_Place.f k l0 a1 = some r) :
    Calls Try.prog 80 #[.slice A0 l0.length c0, .string a1] w fun e w' => e = .returned (.int .i64 r) ∧ Drawn0 w w' := by
  have HR0 := Aside0.mk hr0
  have HC0 := Aside0.mk hc0
  clear hr0 hc0
  have H : ((slices_Index_string_string.f k l0 a1).bind fun t135 => (some t135)) = some r := h
  clear h
  replace H := Option.bind_eq_some_iff.mp H
  obtain ⟨t135, A30, H⟩ := H
  replace H : (some t135) = some r := H
  have A3 := Aside0.mk A30
  clear A30
  obtain rfl := Option.some.inj H
  go_enter Try.func80, Try.ntmps80
  go_wp2_with (first | ((with_reducible refine gate_callee (f := 103) rfl ?_); refine goesL_ (some 7) rfl rfl Try.func103 (by kernel_rfl) rfl #[.slice A0 l0.length c0, .string a1] rfl (by (try simp only [List.map_toArray, List.map_cons, List.map_nil]); first | done | rfl | (simp only [List.length_drop, List.length_take]; rfl)) ?_; (with_reducible refine (slices_Index_string_string.calls k _ _ l0 a1 t135 _ ?side1 ?side2 A3.out).mono ?_); (case side1 => repeat (first | exact HR0.out | (with_reducible refine Kd.C_alloc ?_ _) | (with_reducible refine Kd.C_drewN ?_ _) | (with_reducible refine Kd.C_drew ?_))); (case side2 => exact HC0.out); rintro e w' ⟨rfl, ⟨nd, rfl⟩⟩; refine ⟨_, rfl, ?_⟩))
  go_ret
  exact ⟨by first | rfl | (simp; done) | (simp [*]; done), by repeat (first | exact Drawn0.refl _ | apply Drawn0.step)⟩

/-! ### eval_leaf: function 47 -/
-- USES semblance/eval.place
-- USES semblance/names.Place
-- USES semblance/eval.bit
-- USES semblance/val.Near
/-- what a term comes to that nothing is below of -/
def eval_leaf.f (k : Nat) (a0_0 : Int) (a0_1 : Int) (a0_2 : ByteArray) (l1_0 : List (S51)) (a1_1 a1_2 a1_3 a1_4 : Int) (l1_5 : List ByteArray) : Option Int :=
  if a0_0 = 1 then some a0_1 else if a0_0 = 2 then
    (if Go.Proofs.Ytoeioigpkfgppaa.XFind.idxF (fun x => x.f0.toList == a0_2.toList) l1_0 = 0 then val_Near.f a1_1 else if Go.Proofs.Ytoeioigpkfgppaa.XFind.idxF (fun x => x.f0.toList == a0_2.toList) l1_0 = 1 then val_Near.f a1_2 else if Go.Proofs.Ytoeioigpkfgppaa.XFind.idxF (fun x => x.f0.toList == a0_2.toList) l1_0 = 2 then val_Near.f a1_3 else if Go.Proofs.Ytoeioigpkfgppaa.XFind.idxF (fun x => x.f0.toList == a0_2.toList) l1_0 = 3 then val_Near.f a1_4 else none)
  else if a0_0 = 11 then (names_Place.f k l1_5 a0_2).bind fun p => eval_bit.f (decide (p ≥ 0)) else eval_bit.f (a0_0 == 9)
theorem eval_leaf.mono : ∀ a0 a1 a2 a3 a4 a5 a6 a7 a8 k, LeO (eval_leaf.f k a0 a1 a2 a3 a4 a5 a6 a7 a8) (eval_leaf.f (k + 1) a0 a1 a2 a3 a4 a5 a6 a7 a8) := by
  intro a0 a1 a2 a3 a4 a5 a6 a7 a8 k
  unfold eval_leaf.f
  exact LeO.ite (LeO.refl _) (LeO.ite (LeO.refl _) (LeO.ite (LeO.bind (names_Place.mono a8 a2 k) (fun p => LeO.refl _)) (LeO.refl _)))
set_option maxHeartbeats 4000000 in
theorem eval_leaf.calls (k : Nat) (a0_0 : Int) (a0_1 : Int) (a0_2 : ByteArray) (A1_0 : Option Addr) (c1_0 : Nat) (l1_0 : List (S51)) (a1_1 : Int) (a1_2 : Int) (a1_3 : Int) (a1_4 : Int) (A1_5 : Option Addr) (c1_5 : Nat) (l1_5 : List ByteArray) (r : Int) (w : World) (hr1_0 : Kd.C k51 w A1_0 l1_0.length l1_0) (hc1_0 : l1_0.length ≤ c1_0) (hr1_5 : Kd.C Kd.string w A1_5 l1_5.length l1_5) (hc1_5 : l1_5.length ≤ c1_5) (h : eval_leaf.f k a0_0 a0_1 a0_2 l1_0 a1_1 a1_2 a1_3 a1_4 l1_5 = some r) :
    Calls Try.prog 47 #[.agg #[.int .i64 a0_0, .int .i64 a0_1, .string a0_2], .agg #[.slice A1_0 l1_0.length c1_0, .int .i64 a1_1, .int .i64 a1_2, .int .i64 a1_3, .int .i64 a1_4, .slice A1_5 l1_5.length c1_5]] w fun e w' => e = .returned (.int .i64 r) ∧ Below w.heap.size w w' := by
  unfold eval_leaf.f at h
  obtain ⟨w2, hw2⟩ : ∃ w2, w2 = (w.alloc (.cells #[.int .i64 a0_0, .int .i64 a0_1, .string a0_2] 47)).alloc (.cells #[.slice A1_0 l1_0.length c1_0, .int .i64 a1_1, .int .i64 a1_2, .int .i64 a1_3, .int .i64 a1_4, .slice A1_5 l1_5.length c1_5] 36) := ⟨_, rfl⟩
  have hb2 : Below w.heap.size w w2 := by rw [hw2]; exact ((Below.refl _ _).alloc (Nat.le_refl _) _).alloc (by simp) _
  have hs2 : w2.heap.size = w.heap.size + 2 := by rw [hw2]; simp
  have hkE : w2.heap[w.heap.size + 1]? = some (.cells #[.slice A1_0 l1_0.length c1_0, .int .i64 a1_1, .int .i64 a1_2, .int .i64 a1_3, .int .i64 a1_4, .slice A1_5 l1_5.length c1_5] 36 (0, 0)) := by
    have := heap_alloc_new (w.alloc (.cells #[.int .i64 a0_0, .int .i64 a0_1, .string a0_2] 47)) (.cells #[.slice A1_0 l1_0.length c1_0, .int .i64 a1_1, .int .i64 a1_2, .int .i64 a1_3, .int .i64 a1_4, .slice A1_5 l1_5.length c1_5] 36)
    rw [World.size_alloc] at this
    rw [hw2]; exact this
  have hkT : w2.heap[w.heap.size]? = some (.cells #[.int .i64 a0_0, .int .i64 a0_1, .string a0_2] 47 (0, 0)) := by
    rw [hw2]; exact (Below.heap_alloc _ _ _ (by simp)).trans (heap_alloc_new w _)
  obtain ⟨ht0, ht1, ht2⟩ := cz3_ hkT
  obtain ⟨he0, he1, he2, he3, he4, he5⟩ := cz6_ hkE
  have HB2 := Aside0.mk hb2
  have HKE := Aside0.mk hkE
  have HKT := Aside0.mk hkT
  have HS2 := Aside0.mk hs2
  have HR0 := Aside0.mk hr1_0
  have HR5 := Aside0.mk hr1_5
  clear hb2 hkE hkT hs2 hr1_0 hr1_5
  by_cases q1 : a0_0 = 1
  · rw [if_pos q1] at h
    obtain rfl := Option.some.inj h
    have q1b : (a0_0 == 1) = true := beq_iff_eq.mpr q1
    clear q1 h
    subst hw2
    go_enter Try.func47, Try.ntmps47
    go_wp2
    go_ret
    exact ⟨rfl, HB2.out⟩
  rw [if_neg q1] at h
  have q1b : (a0_0 == 1) = false := beq_eq_false_iff_ne.mpr q1
  clear q1
  by_cases q2 : a0_0 = 2
  · rw [if_pos q2] at h
    have q2b : (a0_0 == 2) = true := beq_iff_eq.mpr q2
    clear q2
    have HC1 := Aside0.mk (eval_place.calls A1_0 c1_0 l1_0 a1_1 a1_2 a1_3 a1_4 A1_5 c1_5 l1_5 a0_2 _ w2 (Kd.C_below HR0.out HB2.out) hc1_0 (Kd.C_below HR5.out HB2.out) hc1_5 rfl)
    generalize Go.Proofs.Ytoeioigpkfgppaa.XFind.idxF (fun x => x.f0.toList == a0_2.toList) l1_0 = i at h HC1
    have main : ∀ (j : Nat) (v : Int), j < 4 → i = j → val_Near.f v = some r → (#[.slice A1_0 l1_0.length c1_0, .int .i64 a1_1, .int .i64 a1_2, .int .i64 a1_3, .int .i64 a1_4, .slice A1_5 l1_5.length c1_5] : Array Value)[1 + j]? = some (.int .i64 v) →
        Calls Try.prog 47 #[.agg #[.int .i64 a0_0, .int .i64 a0_1, .string a0_2], .agg #[.slice A1_0 l1_0.length c1_0, .int .i64 a1_1, .int .i64 a1_2, .int .i64 a1_3, .int .i64 a1_4, .slice A1_5 l1_5.length c1_5]] w fun e w' => e = .returned (.int .i64 r) ∧ Below w.heap.size w w' := by
      intro j v hj hij hv hat
      subst hij
      have HV := Aside0.mk (fun W => val_Near.calls v r W hv)
      have HAT := Aside0.mk hat
      clear hv hat h
      have hj0 : decide ((j : Int) < 0) = false := decide_eq_false (by omega)
      have hj4 : decide ((j : Int) < 4) = true := decide_eq_true (by omega)
      subst hw2
      go_enter Try.func47, Try.ntmps47
      go_wp2_with (first | (go_at_call 56; refine HC1.out.mono ?_; rintro e w3 ⟨rfl, hb3⟩; have HB3 := Aside0.mk hb3; have hx3 : w3.cell? ⟨w.heap.size + 1, 1 + j, none⟩ = some (.int .i64 v) := (blk_cell ((HB3.out.block (w.heap.size + 1) (by have := HS2.out; omega)).trans HKE.out) (1 + j)).trans HAT.out; clear hb3) | (go_at_call 78; refine (HV.out _).mono ?_; rintro e w4 ⟨rfl, hd4⟩; have HB4 := Aside0.mk hd4.below; clear hd4))
      go_ret
      exact ⟨rfl, HB2.out.trans ((HB3.out.trans (HB4.out.mono HB3.out.size)).mono HB2.out.size)⟩
    split at h
    case isTrue e0 => exact main 0 a1_1 (by omega) e0 h rfl
    split at h
    case isTrue e0 => exact main 1 a1_2 (by omega) e0 h rfl
    split at h
    case isTrue e0 => exact main 2 a1_3 (by omega) e0 h rfl
    split at h
    case isTrue e0 => exact main 3 a1_4 (by omega) e0 h rfl
    cases h
  rw [if_neg q2] at h
  have q2b : (a0_0 == 2) = false := beq_eq_false_iff_ne.mpr q2
  clear q2
  by_cases q3 : a0_0 = 11
  · rw [if_pos q3] at h
    have q3b : (a0_0 == 11) = true := beq_iff_eq.mpr q3
    clear q3
    obtain ⟨p, hp, h⟩ := Option.bind_eq_some_iff.mp h
    have HP := Aside0.mk (names_Place.calls k A1_5 c1_5 l1_5 a0_2 p w2 (Kd.C_below HR5.out HB2.out) hc1_5 hp)
    have HV := Aside0.mk (fun W => eval_bit.calls _ r W h)
    clear hp h
    subst hw2
    go_enter Try.func47, Try.ntmps47
    go_wp2_with (first | (go_at_call 80; refine HP.out.mono ?_; rintro e w3 ⟨rfl, hd3⟩; have HB3 := Aside0.mk hd3.below; clear hd3) | (go_at_call 79; refine (HV.out _).mono ?_; rintro e w4 ⟨rfl, hd4⟩; have HB4 := Aside0.mk hd4.below; clear hd4))
    go_ret
    exact ⟨rfl, HB2.out.trans ((HB3.out.trans (HB4.out.mono HB3.out.size)).mono HB2.out.size)⟩
  rw [if_neg q3] at h
  have q3b : (a0_0 == 11) = false := beq_eq_false_iff_ne.mpr q3
  clear q3
  have HV := Aside0.mk (fun W => eval_bit.calls _ r W h)
  clear h
  subst hw2
  go_enter Try.func47, Try.ntmps47
  go_wp2_with (go_at_call 79; refine (HV.out _).mono ?_; rintro e w4 ⟨rfl, hd4⟩; have HB4 := Aside0.mk hd4.below; clear hd4)
  go_ret
  exact ⟨rfl, HB2.out.trans (HB4.out.mono HB2.out.size)⟩


/-! ### val_Plus: function 81 -/
def val_Plus.f (a0 : Int) (a1 : Int) : Option (Int) := (val_Near.f a0).bind fun t136 => ((val_Near.f a1).bind fun t137 => ((val_Near.f (wrap64 (t136 + t137))).bind fun t138 => (some t138)))
set_option maxHeartbeats 8000000 in
set_option maxRecDepth 100000 in
theorem val_Plus.calls (a0 : Int) (a1 : Int) (r : Int) (w : World) (h : val_Plus.f a0 a1 = some r) :
    Calls Try.prog 81 #[.int .i64 a0, .int .i64 a1] w fun e w' => e = .returned (.int .i64 r) ∧ Drawn0 w w' := by
  have H : ((val_Near.f a0).bind fun t136 => ((val_Near.f a1).bind fun t137 => ((val_Near.f (wrap64 (t136 + t137))).bind fun t138 => (some t138)))) = some r := h
  clear h
  replace H := Option.bind_eq_some_iff.mp H
  obtain ⟨t136, A30, H⟩ := H
  replace H : ((val_Near.f a1).bind fun t137 => ((val_Near.f (wrap64 (t136 + t137))).bind fun t138 => (some t138))) = some r := H
  have A3 := Aside0.mk A30
  clear A30
  replace H := Option.bind_eq_some_iff.mp H
  obtain ⟨t137, A40, H⟩ := H
  replace H : ((val_Near.f (wrap64 (t136 + t137))).bind fun t138 => (some t138)) = some r := H
  have A4 := Aside0.mk A40
  clear A40
  replace H := Option.bind_eq_some_iff.mp H
  obtain ⟨t138, A50, H⟩ := H
  replace H : (some t138) = some r := H
  have A5 := Aside0.mk A50
  clear A50
  obtain rfl := Option.some.inj H
  go_enter Try.func81, Try.ntmps81
  go_wp2_with (first | ((with_reducible refine gate_callee (f := 78) rfl ?_); refine goesL_ (some 6) rfl rfl Try.func78 (by kernel_rfl) rfl #[.int .i64 a0] rfl (by (try simp only [List.map_toArray, List.map_cons, List.map_nil]); first | done | rfl | (simp only [List.length_drop, List.length_take]; rfl)) ?_; (with_reducible refine (val_Near.calls a0 t136 _ A3.out).mono ?_); rintro e w' ⟨rfl, ⟨nd, rfl⟩⟩; refine ⟨_, rfl, ?_⟩) | ((with_reducible refine gate_callee (f := 78) rfl ?_); refine goesL_ (some 8) rfl rfl Try.func78 (by kernel_rfl) rfl #[.int .i64 a1] rfl (by (try simp only [List.map_toArray, List.map_cons, List.map_nil]); first | done | rfl | (simp only [List.length_drop, List.length_take]; rfl)) ?_; (with_reducible refine (val_Near.calls a1 t137 _ A4.out).mono ?_); rintro e w' ⟨rfl, ⟨nd, rfl⟩⟩; refine ⟨_, rfl, ?_⟩) | ((with_reducible refine gate_callee (f := 78) rfl ?_); refine goesL_ (some 10) rfl rfl Try.func78 (by kernel_rfl) rfl #[.int .i64 (wrap64 (t136 + t137))] rfl (by (try simp only [List.map_toArray, List.map_cons, List.map_nil]); first | done | rfl | (simp only [List.length_drop, List.length_take]; rfl)) ?_; (with_reducible refine (val_Near.calls (wrap64 (t136 + t137)) t138 _ A5.out).mono ?_); rintro e w' ⟨rfl, ⟨nd, rfl⟩⟩; refine ⟨_, rfl, ?_⟩))
  go_ret
  exact ⟨by first | rfl | (simp; done) | (simp [*]; done), by repeat (first | exact Drawn0.refl _ | apply Drawn0.step)⟩

/-! ### val_Times: function 82 -/
def val_Times.f (a0 : Int) (a1 : Int) : Option (Int) := (val_Near.f a0).bind fun t139 => ((val_Near.f a1).bind fun t140 => ((val_Near.f (wrap64 (t139 * t140))).bind fun t141 => (some t141)))
set_option maxHeartbeats 8000000 in
set_option maxRecDepth 100000 in
theorem val_Times.calls (a0 : Int) (a1 : Int) (r : Int) (w : World) (h : val_Times.f a0 a1 = some r) :
    Calls Try.prog 82 #[.int .i64 a0, .int .i64 a1] w fun e w' => e = .returned (.int .i64 r) ∧ Drawn0 w w' := by
  have H : ((val_Near.f a0).bind fun t139 => ((val_Near.f a1).bind fun t140 => ((val_Near.f (wrap64 (t139 * t140))).bind fun t141 => (some t141)))) = some r := h
  clear h
  replace H := Option.bind_eq_some_iff.mp H
  obtain ⟨t139, A30, H⟩ := H
  replace H : ((val_Near.f a1).bind fun t140 => ((val_Near.f (wrap64 (t139 * t140))).bind fun t141 => (some t141))) = some r := H
  have A3 := Aside0.mk A30
  clear A30
  replace H := Option.bind_eq_some_iff.mp H
  obtain ⟨t140, A40, H⟩ := H
  replace H : ((val_Near.f (wrap64 (t139 * t140))).bind fun t141 => (some t141)) = some r := H
  have A4 := Aside0.mk A40
  clear A40
  replace H := Option.bind_eq_some_iff.mp H
  obtain ⟨t141, A50, H⟩ := H
  replace H : (some t141) = some r := H
  have A5 := Aside0.mk A50
  clear A50
  obtain rfl := Option.some.inj H
  go_enter Try.func82, Try.ntmps82
  go_wp2_with (first | ((with_reducible refine gate_callee (f := 78) rfl ?_); refine goesL_ (some 6) rfl rfl Try.func78 (by kernel_rfl) rfl #[.int .i64 a0] rfl (by (try simp only [List.map_toArray, List.map_cons, List.map_nil]); first | done | rfl | (simp only [List.length_drop, List.length_take]; rfl)) ?_; (with_reducible refine (val_Near.calls a0 t139 _ A3.out).mono ?_); rintro e w' ⟨rfl, ⟨nd, rfl⟩⟩; refine ⟨_, rfl, ?_⟩) | ((with_reducible refine gate_callee (f := 78) rfl ?_); refine goesL_ (some 8) rfl rfl Try.func78 (by kernel_rfl) rfl #[.int .i64 a1] rfl (by (try simp only [List.map_toArray, List.map_cons, List.map_nil]); first | done | rfl | (simp only [List.length_drop, List.length_take]; rfl)) ?_; (with_reducible refine (val_Near.calls a1 t140 _ A4.out).mono ?_); rintro e w' ⟨rfl, ⟨nd, rfl⟩⟩; refine ⟨_, rfl, ?_⟩) | ((with_reducible refine gate_callee (f := 78) rfl ?_); refine goesL_ (some 10) rfl rfl Try.func78 (by kernel_rfl) rfl #[.int .i64 (wrap64 (t139 * t140))] rfl (by (try simp only [List.map_toArray, List.map_cons, List.map_nil]); first | done | rfl | (simp only [List.length_drop, List.length_take]; rfl)) ?_; (with_reducible refine (val_Near.calls (wrap64 (t139 * t140)) t141 _ A5.out).mono ?_); rintro e w' ⟨rfl, ⟨nd, rfl⟩⟩; refine ⟨_, rfl, ?_⟩))
  go_ret
  exact ⟨by first | rfl | (simp; done) | (simp [*]; done), by repeat (first | exact Drawn0.refl _ | apply Drawn0.step)⟩

end Go.Proofs.Ytoeioigpkfgppaa.XV
