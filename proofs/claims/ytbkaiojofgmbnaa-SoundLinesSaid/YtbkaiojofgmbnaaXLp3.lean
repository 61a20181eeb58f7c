-- written by wip/xprint.py out of the translation
import Derived.Test.YtbkaiojofgmbnaaXShort
import Derived.Test.YtbkaiojofgmbnaaXLp0
import Derived.Test.YtbkaiojofgmbnaaXLp2
namespace Go.Proofs.Ytbkaiojofgmbnaa.XL
open Go.Proofs.Ytbkaiojofgmbnaa.XShort Go.Proofs.Ytbkaiojofgmbnaa.XReg Go.Proofs.Ytbkaiojofgmbnaa.XGrow Go.RowKit Go.Proofs.YtbkaiojofgmbnaaW.PrintWords Go.Proofs.YtbkaiojofgmbnaaW.PrintLast Go.Proofs.YtbkaiojofgmbnaaW.PrintMore
attribute [local go_sem] max2_int min2_int max_two min_two max_three min_three max_four min_four   -- for this text's walks alone
set_option linter.unusedVariables false
set_option linter.unusedSimpArgs false

/-! ### names_Is: function 112 -/
/-- may a byte stand at a place of a name? -/
def names_Is.ok (i c : Nat) : Bool := (decide (97 ≤ c) && decide (c ≤ 122)) || (i != 0 && ((decide (48 ≤ c) && decide (c ≤ 57)) || c == 95))
def names_Is.body (s : ByteArray) : Bool := (List.range s.size).all fun i => names_Is.ok i (bt s i).toNat
def names_Is.f (k : Nat) (a0 : ByteArray) : Option (Bool) :=
  if a0.size = 0 then some false else if 12 < a0.size then some false else (names_Keyword.f k a0).bind fun b => if b = true then some false else some (names_Is.body a0)
theorem names_Is.mono : ∀ a0 k, LeO (names_Is.f k a0) (names_Is.f (k + 1) a0) := by
  intro a0 k
  unfold names_Is.f
  exact mo_
instance names_Is.lc : ∀ a0 k, LeC (names_Is.f k a0) (names_Is.f (k + 1) a0) := fun a0 k => ⟨names_Is.mono a0 k⟩
theorem names_Is.bad {s : ByteArray} {i : Nat} (hi : i < s.size) (h : names_Is.ok i (bt s i).toNat = false) : names_Is.body s = false := by
  rw [Bool.eq_false_iff]
  intro hb
  have := List.all_eq_true.1 hb i (List.mem_range.2 hi)
  rw [h] at this
  cases this
theorem names_Is.good {s : ByteArray} (h : ∀ j, j < s.size → names_Is.ok j (bt s j).toNat = true) : names_Is.body s = true :=
  List.all_eq_true.2 fun j hj => h j (List.mem_range.1 hj)
theorem names_Is.below_iter {w : World} (m : Nat) (s : ByteArray) (p : Nat) : Below w.heap.size w ((w.drewN m).iter s p) := (pw_below_drewN (Below.refl _ w) m).alloc (Nat.le_refl _) _
set_option maxHeartbeats 2000000 in
set_option maxRecDepth 100000 in
theorem names_Is.calls (k : Nat) (a0 : ByteArray) (r : Bool) (w : World) (h : names_Is.f k a0 = some r) :
    Calls Try.prog 112 #[.string a0] w fun e w' => e = .returned (.bool r) ∧ Below w.heap.size w w' := by
  unfold names_Is.f at h
  have hlen := Go.Proofs.Ytbkaiojofgmbnaa.XBytes.tl_length a0
  by_cases h0 : a0.size = 0
  · rw [if_pos h0] at h
    have H := Option.some.inj h
    subst H
    have e0 : a0.toList = [] := List.length_eq_zero_iff.1 (hlen.trans h0)
    clear h hlen
    go_enter Try.func112, Try.ntmps112
    go_wp2
    go_ret
    exact ⟨rfl, Below.refl _ _⟩
  · rw [if_neg h0] at h
    have e0 : a0.toList.isEmpty = false := by
      cases hl : a0.toList with
      | nil => rw [hl] at hlen; exact absurd hlen.symm h0
      | cons => rfl
    have e1 : ¬ (a0.toList = []) := fun e => by rw [e] at e0; cases e0
    clear hlen
    by_cases h12 : 12 < a0.size
    · rw [if_pos h12] at h
      have H := Option.some.inj h
      subst H
      have h12' : decide ((12 : Int) < (a0.size : Int)) = true := decide_eq_true (by omega)
      clear h
      go_enter Try.func112, Try.ntmps112
      go_wp2
      go_ret
      exact ⟨rfl, Below.refl _ _⟩
    · rw [if_neg h12] at h
      have h12' : decide ((12 : Int) < (a0.size : Int)) = false := decide_eq_false (by omega)
      cases hk : names_Keyword.f k a0 with
      | none => rw [hk] at h; cases h
      | some b =>
        rw [hk, Option.bind_some] at h
        have HK := Aside0.mk hk
        clear hk
        cases b with
        | true =>
          have H := Option.some.inj h
          subst H
          clear h
          go_enter Try.func112, Try.ntmps112
          go_wp2_with (go_at_call 140; refine (names_Keyword.calls k a0 true _ HK.out).mono ?_; rintro e w' ⟨rfl, hd⟩)
          go_ret
          exact ⟨rfl, hd.below⟩
        | false =>
          have H := Option.some.inj h
          have HH := Aside0.mk H
          clear h H
          go_enter Try.func112, Try.ntmps112
          go_wp2_with (go_at_call 140; refine (names_Keyword.calls k a0 false _ HK.out).mono ?_; rintro e w' ⟨rfl, ⟨m, rfl⟩⟩)
          go_loopg [] a0.size (fun kq wr => ∃ pos : Nat, Aside0 (pos ≤ a0.size) ∧ Aside0 (a0.size - pos = kq) ∧ wr = (w.drewN m).iter a0 pos ∧ Aside0 (∀ j : Nat, j < pos → names_Is.ok j (bt a0 j).toNat = true))
          case atStart => exact ⟨0, ⟨Nat.zero_le _⟩, ⟨rfl⟩, rfl, ⟨fun j hj => absurd hj (Nat.not_lt_zero _)⟩⟩
          case round =>
            obtain ⟨pos, HP, HK, rfl, HG⟩ := hrel
            by_cases hp : pos < a0.size
            · have hbt : (bt a0 (pos : Int)).toNat = (a0[pos]'hp).toNat := by simp [bt, hp]
              have HBT := Aside0.mk hbt
              clear hbt
              by_cases hasc : (a0[pos]'hp).toNat < 128
              · have hnx : ∀ ty, (Instr.next (.pointer (some ⟨w.heap.size, 0, none⟩)) true ty).run Try.prog ((w.drewN m).iter a0 pos) = _ := fun ty => run_next_ascii (w.drewN m) a0 pos ty hp hasc
                generalize (a0[pos]'hp).toNat = c at hnx HBT hasc
                by_cases hL : 97 ≤ c ∧ c ≤ 122
                · obtain ⟨l1, l2⟩ := hL
                  have g1 : decide ((97 : Int) ≤ (c : Int)) = true := decide_eq_true (by omega)
                  have g2 : decide ((c : Int) ≤ 122) = true := decide_eq_true (by omega)
                  go_wp2
                  go_roundg (a0.size - (pos + 1))
                  case measure => have := HK.out; omega
                  case rel =>
                    refine ⟨pos + 1, ⟨by omega⟩, ⟨rfl⟩, rfl, ⟨fun j hj => ?_⟩⟩
                    by_cases e : j = pos
                    · rw [e, HBT.out]; unfold names_Is.ok; first | (simp; done) | (simp; omega)
                    · exact HG.out j (by omega)
                · skip
                  by_cases r0 : c ≤ 47
                  · by_cases hz : pos = 0
                    · have g1 : decide ((97 : Int) ≤ (c : Int)) = false := decide_eq_false (by omega)
                      have g2 : decide ((c : Int) ≤ 122) = true := decide_eq_true (by omega)
                      have g3 : decide ((48 : Int) ≤ (c : Int)) = false := decide_eq_false (by omega)
                      have g4 : decide ((c : Int) ≤ 57) = true := decide_eq_true (by omega)
                      have g5 : ((c : Int) == 95) = false := beq_eq_false_iff_ne.mpr (by omega)
                      have g6 : ((pos : Int) == 0) = true := beq_iff_eq.mpr (by omega)
                      have HZ := Aside0.mk hz
                      clear hz
                      go_wp2
                      go_ret
                      refine ⟨?_, names_Is.below_iter m a0 _⟩
                      rw [← HH.out, names_Is.bad hp (by have hz := HZ.out; rw [HBT.out]; unfold names_Is.ok; first | (simp; done) | (simp; omega))]
                      rfl
                    · have g1 : decide ((97 : Int) ≤ (c : Int)) = false := decide_eq_false (by omega)
                      have g2 : decide ((c : Int) ≤ 122) = true := decide_eq_true (by omega)
                      have g3 : decide ((48 : Int) ≤ (c : Int)) = false := decide_eq_false (by omega)
                      have g4 : decide ((c : Int) ≤ 57) = true := decide_eq_true (by omega)
                      have g5 : ((c : Int) == 95) = false := beq_eq_false_iff_ne.mpr (by omega)
                      have g6 : ((pos : Int) == 0) = false := beq_eq_false_iff_ne.mpr (by omega)
                      go_wp2
                      go_ret
                      refine ⟨?_, names_Is.below_iter m a0 _⟩
                      rw [← HH.out, names_Is.bad hp (by rw [HBT.out]; unfold names_Is.ok; first | (simp; done) | (simp; omega))]
                      rfl
                  · skip
                    by_cases r1 : c ≤ 57
                    · by_cases hz : pos = 0
                      · have g1 : decide ((97 : Int) ≤ (c : Int)) = false := decide_eq_false (by omega)
                        have g2 : decide ((c : Int) ≤ 122) = true := decide_eq_true (by omega)
                        have g3 : decide ((48 : Int) ≤ (c : Int)) = true := decide_eq_true (by omega)
                        have g4 : decide ((c : Int) ≤ 57) = true := decide_eq_true (by omega)
                        have g5 : ((c : Int) == 95) = false := beq_eq_false_iff_ne.mpr (by omega)
                        have g6 : ((pos : Int) == 0) = true := beq_iff_eq.mpr (by omega)
                        have HZ := Aside0.mk hz
                        clear hz
                        go_wp2
                        go_ret
                        refine ⟨?_, names_Is.below_iter m a0 _⟩
                        rw [← HH.out, names_Is.bad hp (by have hz := HZ.out; rw [HBT.out]; unfold names_Is.ok; first | (simp; done) | (simp; omega))]
                        rfl
                      · have g1 : decide ((97 : Int) ≤ (c : Int)) = false := decide_eq_false (by omega)
                        have g2 : decide ((c : Int) ≤ 122) = true := decide_eq_true (by omega)
                        have g3 : decide ((48 : Int) ≤ (c : Int)) = true := decide_eq_true (by omega)
                        have g4 : decide ((c : Int) ≤ 57) = true := decide_eq_true (by omega)
                        have g5 : ((c : Int) == 95) = false := beq_eq_false_iff_ne.mpr (by omega)
                        have g6 : ((pos : Int) == 0) = false := beq_eq_false_iff_ne.mpr (by omega)
                        go_wp2
                        go_roundg (a0.size - (pos + 1))
                        case measure => have := HK.out; omega
                        case rel =>
                          refine ⟨pos + 1, ⟨by omega⟩, ⟨rfl⟩, rfl, ⟨fun j hj => ?_⟩⟩
                          by_cases e : j = pos
                          · rw [e, HBT.out]; unfold names_Is.ok; first | (simp; done) | (simp; omega)
                          · exact HG.out j (by omega)
                    · skip
                      by_cases r2 : c ≤ 94
                      · by_cases hz : pos = 0
                        · have g1 : decide ((97 : Int) ≤ (c : Int)) = false := decide_eq_false (by omega)
                          have g2 : decide ((c : Int) ≤ 122) = true := decide_eq_true (by omega)
                          have g3 : decide ((48 : Int) ≤ (c : Int)) = true := decide_eq_true (by omega)
                          have g4 : decide ((c : Int) ≤ 57) = false := decide_eq_false (by omega)
                          have g5 : ((c : Int) == 95) = false := beq_eq_false_iff_ne.mpr (by omega)
                          have g6 : ((pos : Int) == 0) = true := beq_iff_eq.mpr (by omega)
                          have HZ := Aside0.mk hz
                          clear hz
                          go_wp2
                          go_ret
                          refine ⟨?_, names_Is.below_iter m a0 _⟩
                          rw [← HH.out, names_Is.bad hp (by have hz := HZ.out; rw [HBT.out]; unfold names_Is.ok; first | (simp; done) | (simp; omega))]
                          rfl
                        · have g1 : decide ((97 : Int) ≤ (c : Int)) = false := decide_eq_false (by omega)
                          have g2 : decide ((c : Int) ≤ 122) = true := decide_eq_true (by omega)
                          have g3 : decide ((48 : Int) ≤ (c : Int)) = true := decide_eq_true (by omega)
                          have g4 : decide ((c : Int) ≤ 57) = false := decide_eq_false (by omega)
                          have g5 : ((c : Int) == 95) = false := beq_eq_false_iff_ne.mpr (by omega)
                          have g6 : ((pos : Int) == 0) = false := beq_eq_false_iff_ne.mpr (by omega)
                          go_wp2
                          go_ret
                          refine ⟨?_, names_Is.below_iter m a0 _⟩
                          rw [← HH.out, names_Is.bad hp (by rw [HBT.out]; unfold names_Is.ok; first | (simp; done) | (simp; omega))]
                          rfl
                      · skip
                        by_cases r3 : c ≤ 95
                        · obtain rfl : c = 95 := by omega
                          by_cases hz : pos = 0
                          · have g1 : decide ((97 : Int) ≤ (95 : Int)) = false := decide_eq_false (by omega)
                            have g2 : decide ((95 : Int) ≤ 122) = true := decide_eq_true (by omega)
                            have g3 : decide ((48 : Int) ≤ (95 : Int)) = true := decide_eq_true (by omega)
                            have g4 : decide ((95 : Int) ≤ 57) = false := decide_eq_false (by omega)
                            have g5 : ((95 : Int) == 95) = true := beq_iff_eq.mpr (by omega)
                            have g6 : ((pos : Int) == 0) = true := beq_iff_eq.mpr (by omega)
                            have HZ := Aside0.mk hz
                            clear hz
                            go_wp2
                            go_ret
                            refine ⟨?_, names_Is.below_iter m a0 _⟩
                            rw [← HH.out, names_Is.bad hp (by have hz := HZ.out; rw [HBT.out]; unfold names_Is.ok; first | (simp; done) | (simp; omega))]
                            rfl
                          · have g1 : decide ((97 : Int) ≤ (95 : Int)) = false := decide_eq_false (by omega)
                            have g2 : decide ((95 : Int) ≤ 122) = true := decide_eq_true (by omega)
                            have g3 : decide ((48 : Int) ≤ (95 : Int)) = true := decide_eq_true (by omega)
                            have g4 : decide ((95 : Int) ≤ 57) = false := decide_eq_false (by omega)
                            have g5 : ((95 : Int) == 95) = true := beq_iff_eq.mpr (by omega)
                            have g6 : ((pos : Int) == 0) = false := beq_eq_false_iff_ne.mpr (by omega)
                            go_wp2
                            go_roundg (a0.size - (pos + 1))
                            case measure => have := HK.out; omega
                            case rel =>
                              refine ⟨pos + 1, ⟨by omega⟩, ⟨rfl⟩, rfl, ⟨fun j hj => ?_⟩⟩
                              by_cases e : j = pos
                              · rw [e, HBT.out]; unfold names_Is.ok; first | (simp; done) | (simp; omega)
                              · exact HG.out j (by omega)
                        · skip
                          by_cases r4 : c ≤ 96
                          · obtain rfl : c = 96 := by omega
                            by_cases hz : pos = 0
                            · have g1 : decide ((97 : Int) ≤ (96 : Int)) = false := decide_eq_false (by omega)
                              have g2 : decide ((96 : Int) ≤ 122) = true := decide_eq_true (by omega)
                              have g3 : decide ((48 : Int) ≤ (96 : Int)) = true := decide_eq_true (by omega)
                              have g4 : decide ((96 : Int) ≤ 57) = false := decide_eq_false (by omega)
                              have g5 : ((96 : Int) == 95) = false := beq_eq_false_iff_ne.mpr (by omega)
                              have g6 : ((pos : Int) == 0) = true := beq_iff_eq.mpr (by omega)
                              have HZ := Aside0.mk hz
                              clear hz
                              go_wp2
                              go_ret
                              refine ⟨?_, names_Is.below_iter m a0 _⟩
                              rw [← HH.out, names_Is.bad hp (by have hz := HZ.out; rw [HBT.out]; unfold names_Is.ok; first | (simp; done) | (simp; omega))]
                              rfl
                            · have g1 : decide ((97 : Int) ≤ (96 : Int)) = false := decide_eq_false (by omega)
                              have g2 : decide ((96 : Int) ≤ 122) = true := decide_eq_true (by omega)
                              have g3 : decide ((48 : Int) ≤ (96 : Int)) = true := decide_eq_true (by omega)
                              have g4 : decide ((96 : Int) ≤ 57) = false := decide_eq_false (by omega)
                              have g5 : ((96 : Int) == 95) = false := beq_eq_false_iff_ne.mpr (by omega)
                              have g6 : ((pos : Int) == 0) = false := beq_eq_false_iff_ne.mpr (by omega)
                              go_wp2
                              go_ret
                              refine ⟨?_, names_Is.below_iter m a0 _⟩
                              rw [← HH.out, names_Is.bad hp (by rw [HBT.out]; unfold names_Is.ok; first | (simp; done) | (simp; omega))]
                              rfl
                          · skip
                            by_cases hz : pos = 0
                            · have g1 : decide ((97 : Int) ≤ (c : Int)) = true := decide_eq_true (by omega)
                              have g2 : decide ((c : Int) ≤ 122) = false := decide_eq_false (by omega)
                              have g3 : decide ((48 : Int) ≤ (c : Int)) = true := decide_eq_true (by omega)
                              have g4 : decide ((c : Int) ≤ 57) = false := decide_eq_false (by omega)
                              have g5 : ((c : Int) == 95) = false := beq_eq_false_iff_ne.mpr (by omega)
                              have g6 : ((pos : Int) == 0) = true := beq_iff_eq.mpr (by omega)
                              have HZ := Aside0.mk hz
                              clear hz
                              go_wp2
                              go_ret
                              refine ⟨?_, names_Is.below_iter m a0 _⟩
                              rw [← HH.out, names_Is.bad hp (by have hz := HZ.out; rw [HBT.out]; unfold names_Is.ok; first | (simp; done) | (simp; omega))]
                              rfl
                            · have g1 : decide ((97 : Int) ≤ (c : Int)) = true := decide_eq_true (by omega)
                              have g2 : decide ((c : Int) ≤ 122) = false := decide_eq_false (by omega)
                              have g3 : decide ((48 : Int) ≤ (c : Int)) = true := decide_eq_true (by omega)
                              have g4 : decide ((c : Int) ≤ 57) = false := decide_eq_false (by omega)
                              have g5 : ((c : Int) == 95) = false := beq_eq_false_iff_ne.mpr (by omega)
                              have g6 : ((pos : Int) == 0) = false := beq_eq_false_iff_ne.mpr (by omega)
                              go_wp2
                              go_ret
                              refine ⟨?_, names_Is.below_iter m a0 _⟩
                              rw [← HH.out, names_Is.bad hp (by rw [HBT.out]; unfold names_Is.ok; first | (simp; done) | (simp; omega))]
                              rfl
              · have hnx : ∀ ty, (Instr.next (.pointer (some ⟨w.heap.size, 0, none⟩)) true ty).run Try.prog ((w.drewN m).iter a0 pos) = _ := fun ty => run_next_any (w.drewN m) a0 pos ty hp
                obtain ⟨hd1, -⟩ := decode_high a0 pos hp (by omega)
                generalize (Utf8.decode a0 pos).1 = c at hnx hd1
                generalize (Utf8.decode a0 pos).2 = c2 at hnx
                generalize (a0[pos]'hp).toNat = cb at HBT hasc
                by_cases hz : pos = 0
                · have g1 : decide ((97 : Int) ≤ (c : Int)) = true := decide_eq_true (by omega)
                  have g2 : decide ((c : Int) ≤ 122) = false := decide_eq_false (by omega)
                  have g3 : decide ((48 : Int) ≤ (c : Int)) = true := decide_eq_true (by omega)
                  have g4 : decide ((c : Int) ≤ 57) = false := decide_eq_false (by omega)
                  have g5 : ((c : Int) == 95) = false := beq_eq_false_iff_ne.mpr (by omega)
                  have g6 : ((pos : Int) == 0) = true := beq_iff_eq.mpr (by omega)
                  have HZ := Aside0.mk hz
                  clear hz
                  go_wp2
                  go_ret
                  refine ⟨?_, names_Is.below_iter m a0 _⟩
                  rw [← HH.out, names_Is.bad hp (by have hz := HZ.out; rw [HBT.out]; unfold names_Is.ok; first | (simp; done) | (simp; omega))]
                  rfl
                · have g1 : decide ((97 : Int) ≤ (c : Int)) = true := decide_eq_true (by omega)
                  have g2 : decide ((c : Int) ≤ 122) = false := decide_eq_false (by omega)
                  have g3 : decide ((48 : Int) ≤ (c : Int)) = true := decide_eq_true (by omega)
                  have g4 : decide ((c : Int) ≤ 57) = false := decide_eq_false (by omega)
                  have g5 : ((c : Int) == 95) = false := beq_eq_false_iff_ne.mpr (by omega)
                  have g6 : ((pos : Int) == 0) = false := beq_eq_false_iff_ne.mpr (by omega)
                  go_wp2
                  go_ret
                  refine ⟨?_, names_Is.below_iter m a0 _⟩
                  rw [← HH.out, names_Is.bad hp (by rw [HBT.out]; unfold names_Is.ok; first | (simp; done) | (simp; omega))]
                  rfl
            · have hnx : ∀ ty, (Instr.next (.pointer (some ⟨w.heap.size, 0, none⟩)) true ty).run Try.prog ((w.drewN m).iter a0 pos) = _ := fun ty => run_next_end (w.drewN m) a0 pos ty hp
              go_wp2
              go_ret
              refine ⟨?_, names_Is.below_iter m a0 _⟩
              rw [← HH.out, names_Is.good (fun j hj => HG.out j (by omega))]
              rfl


/-! ### slices_ContainsFunc_string_string: function 73 -/
-- USES slices.IndexFunc[[]string,string]
theorem ContainsFunc_str.any (p : ByteArray → Bool) (l : List ByteArray) : decide (0 ≤ IndexFunc_str.f p l) = l.any p := by
  unfold IndexFunc_str.f
  cases h : l.findIdx? p with
  | none =>
    rw [List.findIdx?_eq_none_iff] at h
    have : l.any p = false := by simpa using h
    simp [this]
  | some i =>
    rw [List.findIdx?_eq_some_iff_getElem] at h
    obtain ⟨hi, hp, _⟩ := h
    have : l.any p = true := List.any_eq_true.2 ⟨_, List.getElem_mem hi, hp⟩
    simp [this]
set_option maxHeartbeats 2000000 in
theorem ContainsFunc_str.calls (p : ByteArray → Bool) (g : Nat) (lb : Array Value) (eg : ∀ args w, (callFunc g args).run Try.prog w = .ok (.enter g args) w) (A0 : Option Addr) (c0 : Nat) (l0 : List ByteArray) (w : World) (hr0 : Kd.C Kd.string w A0 l0.length l0) (hbig : l0.length ≤ 9223372036854775807)
    (hp : ∀ W, Below w.heap.size w W → ∀ x : ByteArray, x ∈ l0 → Calls Try.prog g (#[.string x] ++ lb) W fun e w' => e = .returned (.bool (p x)) ∧ Below w.heap.size w w') :
    Calls Try.prog 73 #[.slice A0 l0.length c0, .func (.func g) #[] lb] w fun e w' => e = .returned (.bool (l0.any p)) ∧ Below w.heap.size w w' := by
  have hcall := IndexFunc_str.calls p g lb eg A0 c0 l0 w hr0 hbig hp
  have HANY := Aside0.mk (ContainsFunc_str.any p l0)
  generalize IndexFunc_str.f p l0 = i at hcall HANY
  have HC := Aside0.mk hcall
  clear hp hr0 hcall
  go_enter Try.func73, Try.ntmps73
  go_wp2_with (go_at_call 100; refine HC.out.mono ?_; rintro e w' ⟨rfl, hb'⟩)
  go_ret
  exact ⟨by rw [← HANY.out]; rfl, hb'⟩
-- FAKE semblance/print.Check$1
-- USES semblance/names.Is
def print_Check1.f (k : Nat) (s : ByteArray) : Option Bool := (names_Is.f k s).bind fun t => some (!t)
theorem print_Check1.mono : ∀ s k, LeO (print_Check1.f k s) (print_Check1.f (k + 1) s) := fun s k => LeO.bind (names_Is.mono s k) (fun _ => LeO.refl _)
instance print_Check1.lc : ∀ s k, LeC (print_Check1.f k s) (print_Check1.f (k + 1) s) := fun s k => ⟨print_Check1.mono s k⟩
set_option maxHeartbeats 2000000 in
set_option maxRecDepth 100000 in
theorem print_Check1.calls (k : Nat) (s : ByteArray) (r : Bool) (w : World) (h : print_Check1.f k s = some r) : Calls Try.prog 114 #[.string s] w fun e w' => e = .returned (.bool r) ∧ Below w.heap.size w w' := by
  obtain ⟨t, ht, h⟩ := Option.bind_eq_some_iff.mp h
  obtain rfl := Option.some.inj h
  have HT := Aside0.mk ht
  clear ht h
  go_enter Try.func114, Try.ntmps114
  go_wp2_with (first | (go_at_call 112; (with_reducible refine Go.Proofs.Ytbkaiojofgmbnaa.XShort.cm_ (names_Is.calls k s t _ HT.out) ?_); intro w1 hb))
  go_ret
  exact ⟨rfl, hb⟩
def slices_ContainsFunc_string_string.f (k : Nat) (l0 : List (ByteArray)) (_ : Int) : Option Bool := Go.Proofs.Ytbkaiojofgmbnaa.XShort.anyO l0 (fun x => print_Check1.f k x)
theorem slices_ContainsFunc_string_string.mono : ∀ a0 a1 k, LeO (slices_ContainsFunc_string_string.f k a0 a1) (slices_ContainsFunc_string_string.f (k + 1) a0 a1) := fun a0 a1 k => Go.Proofs.Ytbkaiojofgmbnaa.XShort.anyO_mono (fun x _ => print_Check1.mono _ k)
instance slices_ContainsFunc_string_string.lc : ∀ a0 a1 k, LeC (slices_ContainsFunc_string_string.f k a0 a1) (slices_ContainsFunc_string_string.f (k + 1) a0 a1) := fun a0 a1 k => ⟨slices_ContainsFunc_string_string.mono a0 a1 k⟩
theorem slices_ContainsFunc_string_string.calls (k : Nat) (A0 : Option Addr) (c0 : Nat) (l0 : List (ByteArray)) (a1 : Int) (r : Bool) (w : World) (hr0 : Kd.C Kd.string w A0 l0.length l0) (hc0 : l0.length ≤ c0)
    (h : slices_ContainsFunc_string_string.f k l0 a1 = some r) :
    Calls Try.prog 73 #[.slice A0 l0.length c0, .func (.func 114) #[] #[]] w fun e w' => e = .returned (.bool r) ∧ Below w.heap.size w w' := by
  obtain ⟨ha, rfl⟩ := Go.Proofs.Ytbkaiojofgmbnaa.XShort.anyO_some h
  have eg := Go.Proofs.enters_of Try.func114 (by kernel_rfl) rfl
  exact ContainsFunc_str.calls _ _ #[] eg A0 c0 l0 w hr0 (by have := hr0.2.1; omega) fun W hW x hx => (print_Check1.calls k x _ W (ha x hx)).mono fun e w' ⟨he, hw⟩ => ⟨he, below_then hW hW.size hw⟩


/-! ### shape_Check: function 113 -/
/-- the path, cut back to where it ends in a place -/
def shape_Check.pop (p : List Int) (a : Int) : List Int := (p.reverse.dropWhile (fun x => x != a)).reverse
/-- the path behind one more state; none: it may not stand there -/
def shape_Check.step (l0 : List (S108)) (p : List Int) (i : Int) : Option (List Int) :=
  if shape_Check.pop p (rd_T108 l0 i).f2 = [] then
    (if 0 < i ∨ (rd_T108 l0 i).f2 ≠ -1 then none else if 1 ≤ (rd_T108 l0 i).f1 ∧ (rd_T108 l0 i).f1 ≤ 3 then some [i] else none)
  else if (rd_T108 l0 (rd_T108 l0 i).f2).f1 = 1 then none
  else if 1 ≤ (rd_T108 l0 i).f1 ∧ (rd_T108 l0 i).f1 ≤ 3 then some (shape_Check.pop p (rd_T108 l0 i).f2 ++ [i]) else none
/-- the depth behind the states from one on (so many are left) -/
def shape_Check.run (l0 : List (S108)) : Nat → List Int → Int → Option Int
  | 0, _, deep => some deep
  | n + 1, p, deep => match shape_Check.step l0 p ((l0.length : Int) - ((n : Int) + 1)) with
    | none => none
    | some q => shape_Check.run l0 n q (max deep q.length)
def shape_Check.f (l0 : List (S108)) : Option Int :=
  some (if 60 < l0.length then 8 else if l0.length = 0 then 1 else match shape_Check.run l0 l0.length [] 0 with
    | none => 1
    | some d => if 12 < d then 6 else 0)

/-- a path in memory: a block of one cell that holds a row of the call's own -/
def shape_Check.At (w0 w : World) (g : Nat) (p : List Int) : Prop :=
  ∃ v, w.heap[g]? = some (.cells #[v] 174 (0, 0)) ∧ w.ownsRow w0.heap.size 3 1 v p.length (p.map (Value.int .i64)) ∧ v.ownBlock ≠ some g ∧ w0.heap.size ≤ g
theorem shape_Check.pop_nil (a : Int) : shape_Check.pop [] a = [] := rfl
theorem shape_Check.pop_hit (p : List Int) (a : Int) : shape_Check.pop (p ++ [a]) a = p ++ [a] := by simp [shape_Check.pop]
theorem shape_Check.pop_miss (p : List Int) (x a : Int) (h : x ≠ a) : shape_Check.pop (p ++ [x]) a = shape_Check.pop p a := by simp [shape_Check.pop, h]
theorem shape_Check.succ {W : World} {base : Nat} {e : TypeId} {size : Nat} {v : Value} {k : Nat} {xs : List Value} (h : W.ownsRow base e size v (k + 1) xs) : ∃ g cap, v = .slice (some ⟨g, 0, none⟩) (k + 1) cap := by
  rcases h.2 with ⟨_, h⟩ | ⟨g, cap, _, h, _⟩
  · omega
  · exact ⟨g, cap, h⟩
/-- behind the append: where the path lies, and what else -/
theorem shape_Check.pushed {w0 W w2 : World} {g : Nat} {v v' : Value} {p1 : List Int} {i : Int} {o : Obj} (e1 : W.heap[g]? = some (.cells #[v] 174 (0, 0))) (e2 : W.ownsRow w0.heap.size 3 1 v p1.length (p1.map (Value.int .i64))) (e3 : v.ownBlock ≠ some g) (e4 : w0.heap.size ≤ g)
    (hB : Below w0.heap.size w0 W) (hg : (W.alloc o).grownBy w2 v.ownBlock) (hown : w2.ownsRow w0.heap.size 3 1 v' (p1.length + 1) (p1.map (Value.int .i64) ++ [.int .i64 i])) :
    w2.heap[g]? = some (.cells #[v] 174 (0, 0)) ∧ Below w0.heap.size w0 w2 ∧ shape_Check.At w0 (w2.setCell ⟨g, 0, none⟩ v') g (p1 ++ [i]) ∧
      ∀ (b : Nat) (cs : Array Value) (t : TypeId), W.heap[b]? = some (Obj.cells cs t (0, 0)) → t ≠ 3 → w2.heap[b]? = some (Obj.cells cs t (0, 0)) := by
  have hk : ∀ (b : Nat) (cs : Array Value) (t : TypeId), W.heap[b]? = some (Obj.cells cs t (0, 0)) → t ≠ 3 → w2.heap[b]? = some (Obj.cells cs t (0, 0)) := by
    intro b cs t hb ht
    have h1 := blk_alloc hb o
    refine (hg.block b (lt_of_block h1) (fun e => ?_)).trans h1
    obtain ⟨c', hc'⟩ := own_typed e2 b e.symm
    rw [hb] at hc'
    injection hc' with hc'
    injection hc' with _ hc'
    exact ht hc'
  have h1 := hk g _ _ e1 (by decide)
  refine ⟨h1, (hB.alloc hB.size o).grown hg (Nat.le_trans hB.size (by simp)) (fun k hk => (e2.lt k hk).1), ⟨v', one_setCell h1, ?_, ?_, e4⟩, hk⟩
  · refine ownsRow_setCell_other (by simpa using hown) ?_ _
    intro e
    obtain ⟨c', hc'⟩ := own_typed hown g e
    rw [h1] at hc'
    injection hc' with hc'
    injection hc' with _ hc'
    exact absurd hc' (by decide)
  · intro e
    obtain ⟨c', hc'⟩ := own_typed hown g e
    rw [h1] at hc'
    injection hc' with hc'
    injection hc' with _ hc'
    exact absurd hc' (by decide)
set_option maxHeartbeats 2000000 in
set_option maxRecDepth 100000 in
theorem shape_Check.meet (g : Nat) (A0 : Option Addr) (c0 : Nat) (l0 : List (S108)) (i : Int) (p : List Int) (w0 w : World) (hr0 : Kd.C k108 w0 A0 l0.length l0) (h0 : 0 ≤ i) (hi : i < l0.length) (hl : l0.length ≤ 60)
    (hp : ∀ x ∈ p, 0 ≤ x ∧ x < l0.length) (hn : p.length ≤ 60) (hB : Below w0.heap.size w0 w) (hP : shape_Check.At w0 w g p) :
    Calls Try.prog 141 #[.pointer (some ⟨g, 0, none⟩), .slice A0 l0.length c0, .int .i64 i] w fun e w' => e = .returned (.bool (shape_Check.step l0 p i).isSome) ∧ Below w0.heap.size w0 w' ∧
      ∀ q, shape_Check.step l0 p i = some q → shape_Check.At w0 w' g q := by
  have hC := Kd.C_below hr0 hB
  obtain ⟨ad, A3, cc3, A4, cc4, A5, cc5, hA, hx0, hx1, hx2, hx3, hx4, hx5, -⟩ := at_T108 hC i h0 hi
  subst hA
  obtain ⟨i0, hi0, hz0, hz1, hz2⟩ := info_parts info3
  go_enter Try.func141, Try.ntmps141
  go_wp2
  have HR := Aside0.mk hr0
  have hsz := World.size_alloc
  obtain ⟨w1, hw1⟩ : ∃ w1 : World, w1 = w.alloc (.cells #[.string (rd_T108 l0 i).f0, .int .i64 (rd_T108 l0 i).f1, .int .i64 (rd_T108 l0 i).f2, .slice A3 (rd_T108 l0 i).f3.length cc3, .slice A4 (rd_T108 l0 i).f4.length cc4, .slice A5 (rd_T108 l0 i).f5.length cc5] 108) := ⟨_, rfl⟩
  have s0 : w0.heap.size ≤ w.heap.size := hB.size
  have b7 : w1.heap[w.heap.size]? = some (.cells #[.string (rd_T108 l0 i).f0, .int .i64 (rd_T108 l0 i).f1, .int .i64 (rd_T108 l0 i).f2, .slice A3 (rd_T108 l0 i).f3.length cc3, .slice A4 (rd_T108 l0 i).f4.length cc4, .slice A5 (rd_T108 l0 i).f5.length cc5] 108 (0, 0)) := by rw [hw1]; exact heap_alloc_new w _
  have B1 : Below w0.heap.size w0 w1 := by rw [hw1]; exact hB.alloc s0 _
  have hP1 : shape_Check.At w0 w1 g p := by
    obtain ⟨v, e1, e2, e3, e4⟩ := hP
    refine ⟨v, ?_, ?_, e3, e4⟩
    · rw [hw1]; exact blk_alloc e1 _
    · rw [hw1]; exact e2.alloc _
  rw [← hw1]
  clear hw1 hP hx0 hx1 hx2 hx3 hx4 hx5 hC hr0 hsz
  generalize w.heap.size = b7n at *
  generalize hS : rd_T108 l0 i = s at *
  have HS := Aside0.mk hS
  clear hS
  have HP := Aside0.mk hP1
  have HB := Aside0.mk B1
  have HB7 := Aside0.mk b7
  have HPP := Aside0.mk hp
  clear hP1 B1 b7 hp hB
  go_loopg [] p.length (fun kq wr => ∃ p1 : List Int, Aside0 (kq = p1.length) ∧ Aside0 (shape_Check.pop p s.f2 = shape_Check.pop p1 s.f2) ∧ Aside0 (∀ x ∈ p1, 0 ≤ x ∧ x < (l0.length : Int)) ∧ Aside0 (p1.length ≤ 60) ∧ Aside0 (shape_Check.At w0 wr g p1) ∧ Aside0 (Below w0.heap.size w0 wr) ∧ Aside0 (wr.heap[b7n]? = some (.cells #[.string s.f0, .int .i64 s.f1, .int .i64 s.f2, .slice A3 s.f3.length cc3, .slice A4 s.f4.length cc4, .slice A5 s.f5.length cc5] 108 (0, 0))))
  case atStart => exact ⟨p, ⟨rfl⟩, ⟨rfl⟩, HPP, ⟨hn⟩, HP, HB, HB7⟩
  case round =>
    clear HP HB HB7 HPP
    obtain ⟨p1, HK, HQ, HPP, HN, HP, HB, HB7⟩ := hrel
    obtain ⟨v, e1, e2, e3, e4⟩ := HP.out
    have c7 : ∀ j u, (#[.string s.f0, .int .i64 s.f1, .int .i64 s.f2, .slice A3 s.f3.length cc3, .slice A4 s.f4.length cc4, .slice A5 s.f5.length cc5] : Array Value)[j]? = some u → wr.cell? ⟨b7n, j, none⟩ = some u := fun j u h => by simpa [World.cell?, HB7.out] using h
    have d1 := c7 1 _ rfl
    have d2 := c7 2 _ rfl
    clear c7
    have cg := cell_of_one e1
    rcases List.eq_nil_or_concat p1 with rfl | ⟨q, x, rfl⟩
    · have hv : ∃ a c, v = .slice a 0 c := by
        rcases e2.2 with ⟨rfl, -⟩ | ⟨gb, cap, cur, rfl, -⟩
        · exact ⟨_, _, rfl⟩
        · exact ⟨_, _, rfl⟩
      obtain ⟨va, vc, rfl⟩ := hv
      have hq0 : shape_Check.pop p s.f2 = [] := HQ.out
      have hstep : shape_Check.step l0 p i = (if 0 < i ∨ s.f2 ≠ -1 then none else if 1 ≤ s.f1 ∧ s.f1 ≤ 3 then some [i] else none) := by
        unfold shape_Check.step; rw [HS.out, if_pos hq0]
      have HST := Aside0.mk hstep
      have HE2 := Aside0.mk e2
      have HE1 := Aside0.mk e1
      have HE3 := Aside0.mk e3
      clear hq0 hstep e2 e1 e3
      by_cases hA : 0 < i
      · have hA1 : decide (0 < i) = true := decide_eq_true hA
        go_wp2
        repeat (go_quiet (fail); try go_wp2)
        go_ret
        rw [HST.out, if_pos (.inl hA)]
        exact ⟨rfl, (pw_below_drewN HB.out _), fun q h => by cases h⟩
      · have hA1 : decide (0 < i) = false := decide_eq_false hA
        by_cases hpar : s.f2 = -1
        · have hp1 : (s.f2 == -1) = true := beq_iff_eq.mpr hpar
          have hp2 : (s.f2 != -1) = false := bne_eq_false_iff_eq.mpr hpar
          have HPAR := Aside0.mk hpar
          clear hpar
          go_wp2
          repeat (go_quiet (fail); try go_wp2_with (at_builtin; refine wpList_append_own _ rfl _ _ 174 rfl w0.heap.size 3 i0 (.int .i64 0) 1 8 Try.underlying174 hi0 hz0 hz1 hz2 rfl (by decide) _ _ _ rfl (World.ownsRow.alloc (pw_own_drewN HE2.out _) _) ⟨wr.heap.size, 0, none⟩ 1 1 [.int .i64 i] rfl rfl ?c1 ?c2 ?c3 ?c4 ?c5 ?c6))
          case c1 => exact cell_one_new _ _ _
          case c2 => intro u hu; simp at hu; subst hu; rfl
          case c3 => simp [maxLen]
          case c4 => simp
          case c5 => exact Nat.le_trans HB.out.size (by simp)
          case c6 =>
            intro v2 w2 hown hgrow _
            obtain ⟨hg2, hB2, hP2, hk2⟩ := shape_Check.pushed (i := i) (p1 := []) (blk_drewN HE1.out _) (pw_own_drewN HE2.out _) HE3.out e4 (pw_below_drewN HB.out _) hgrow hown
            have hb2 := hk2 _ _ _ (blk_drewN HB7.out _) (by decide)
            obtain ⟨g3, c3, rfl⟩ := shape_Check.succ hown
            have HP2 := Aside0.mk hP2
            have HB2 := Aside0.mk hB2
            clear hP2 hB2 hown hgrow hk2
            have cg2 := cell_of_one hg2
            have fg2 := free_of_one hg2
            have d1' : w2.cell? ⟨b7n, 1, none⟩ = some (.int .i64 s.f1) := by simp [World.cell?, hb2]
            have hne : ¬ (g = b7n) := by
              rintro rfl
              rw [hg2] at hb2
              injection hb2 with hb2
              injection hb2 with _ hb2
              exact absurd hb2 (by decide)
            have hne' : ¬ (b7n = g) := fun e => hne e.symm
            clear hg2 hb2 cg d1 d2
            have hno : ¬ (0 < i ∨ s.f2 ≠ -1) := by rw [HPAR.out]; simp; omega
            by_cases hk1 : 1 ≤ s.f1
            · have hk1' : decide (1 ≤ s.f1) = true := decide_eq_true hk1
              by_cases hk3 : s.f1 ≤ 3
              · have hk3' : decide (s.f1 ≤ 3) = true := decide_eq_true hk3
                go_wp2
                repeat (go_quiet (fail); try go_wp2)
                go_ret
                rw [HST.out, if_neg hno, if_pos ⟨hk1, hk3⟩]
                exact ⟨rfl, HB2.out.setCell (p := ⟨g, 0, none⟩) e4 _, fun q h => by cases h; exact HP2.out⟩
              · have hk3' : decide (s.f1 ≤ 3) = false := decide_eq_false hk3
                go_wp2
                repeat (go_quiet (fail); try go_wp2)
                go_ret
                rw [HST.out, if_neg hno, if_neg (by omega)]
                exact ⟨rfl, HB2.out.setCell (p := ⟨g, 0, none⟩) e4 _, fun q h => by cases h⟩
            · have hk1' : decide (1 ≤ s.f1) = false := decide_eq_false hk1
              go_wp2
              repeat (go_quiet (fail); try go_wp2)
              go_ret
              rw [HST.out, if_neg hno, if_neg (by omega)]
              exact ⟨rfl, HB2.out.setCell (p := ⟨g, 0, none⟩) e4 _, fun q h => by cases h⟩
        · have hp1 : (s.f2 == -1) = false := beq_eq_false_iff_ne.mpr hpar
          have hp2 : (s.f2 != -1) = true := bne_iff_ne.mpr hpar
          go_wp2
          repeat (go_quiet (fail); try go_wp2)
          go_ret
          rw [HST.out, if_pos (.inr hpar)]
          exact ⟨rfl, (pw_below_drewN HB.out _), fun q h => by cases h⟩
    · obtain ⟨gb, cap, cur, rfl, -, hcur, hcl, hcm, hcs, htk⟩ : ∃ gb cap cur, v = .slice (some ⟨gb, 0, none⟩) (q.length + 1) cap ∧ w0.heap.size ≤ gb ∧ wr.heap[gb]? = some (.cells cur 3 (0, 0)) ∧ q.length + 1 ≤ cap ∧ cap ≤ maxLen ∧ cur.size = cap * 1 ∧ cur.toList.take ((q.length + 1) * 1) = (q.concat x).map (Value.int .i64) := by
        have h2 := e2.2
        simp only [List.length_concat] at h2
        rcases h2 with ⟨-, h⟩ | h
        · omega
        · exact h
      have hlast : wr.cell? ⟨gb, q.length, none⟩ = some (.int .i64 x) := by
        have := e2.cells (g := gb) (by simp [Value.ownBlock]) q.length (.int .i64 x) (by simp)
        have hz : (⟨gb, 0, none⟩ : Addr).add q.length = ⟨gb, q.length, none⟩ := by rw [Addr.add_lit]; simp
        rwa [hz] at this
      have HE2 := Aside0.mk e2
      have HE1 := Aside0.mk e1
      have HE3 := Aside0.mk e3
      have HCUR := Aside0.mk hcur
      have HTK := Aside0.mk htk
      have HCS := Aside0.mk hcs
      have hql : q.length + 1 ≤ 60 := by have := HN.out; simpa using this
      clear e2 e1 e3 hcur htk hcs
      have hlen0 : decide ((0 : Int) < (q.length : Int) + 1) = true := decide_eq_true (by omega)
      by_cases hx : x = s.f2
      · subst hx
        have hpp : shape_Check.pop p s.f2 = q ++ [s.f2] := by rw [HQ.out, List.concat_eq_append, shape_Check.pop_hit]
        have hb := HPP.out s.f2 (by simp)
        obtain ⟨hb0, hb1⟩ := hb
        have hC := Kd.C_below HR.out HB.out
        obtain ⟨ad2, A3', cc3', A4', cc4', A5', cc5', hA, hx0, hx1, hx2, hx3, hx4, hx5, -⟩ := at_T108 hC s.f2 hb0 hb1
        cases hA
        have hstep : shape_Check.step l0 p i = (if (rd_T108 l0 s.f2).f1 = 1 then none else if 1 ≤ s.f1 ∧ s.f1 ≤ 3 then some (q ++ [s.f2] ++ [i]) else none) := by
          unfold shape_Check.step; rw [HS.out, if_neg (by rw [hpp]; simp), hpp]
        have HST := Aside0.mk hstep
        generalize hD : rd_T108 l0 s.f2 = s2 at *
        have HD := Aside0.mk hD
        clear hD hpp hstep hx0 hx2 hx3 hx4 hx5 hC
        by_cases hkk : s2.f1 = 1
        · have hkk1 : (s2.f1 == 1) = true := beq_iff_eq.mpr hkk
          have HKK := Aside0.mk hkk
          clear hkk
          go_wp2
          repeat (go_quiet (fail); try go_wp2)
          go_ret
          rw [HST.out, if_pos HKK.out]
          exact ⟨rfl, pw_below_drewN HB.out _, fun q h => by cases h⟩
        · have hkk1 : (s2.f1 == 1) = false := beq_eq_false_iff_ne.mpr hkk
          have HKK := Aside0.mk hkk
          clear hkk
          go_wp2
          repeat (go_quiet (fail); try go_wp2_with (at_builtin; refine wpList_append_own _ rfl _ _ 174 rfl w0.heap.size 3 i0 (.int .i64 0) 1 8 Try.underlying174 hi0 hz0 hz1 hz2 rfl (by decide) _ _ _ rfl (World.ownsRow.alloc (pw_own_drewN HE2.out _) _) ⟨wr.heap.size, 0, none⟩ 1 1 [.int .i64 i] rfl rfl ?c1 ?c2 ?c3 ?c4 ?c5 ?c6))
          case c1 => exact cell_one_new _ _ _
          case c2 => intro u hu; simp at hu; subst hu; rfl
          case c3 => simp [maxLen]; omega
          case c4 => simp; omega
          case c5 => exact Nat.le_trans HB.out.size (by simp)
          case c6 =>
            intro v2 w2 hown hgrow _
            have hown : w2.ownsRow w0.heap.size 3 1 v2 ((q ++ [s.f2]).length + 1) ((q ++ [s.f2]).map (Value.int .i64) ++ [.int .i64 i]) := by simpa [List.concat_eq_append] using hown
            obtain ⟨hg2, hB2, hP2, hk2⟩ := shape_Check.pushed (i := i) (p1 := q ++ [s.f2]) (blk_drewN HE1.out _) (by have := HE2.out; rw [List.concat_eq_append] at this; exact pw_own_drewN this _) HE3.out e4 (pw_below_drewN HB.out _) hgrow hown
            have hb2 := hk2 _ _ _ (blk_drewN HB7.out _) (by decide)
            simp only [List.length_append, List.length_singleton] at hown
            obtain ⟨g3, c3, rfl⟩ := shape_Check.succ hown
            have HP2 := Aside0.mk hP2
            have HB2 := Aside0.mk hB2
            clear hP2 hB2 hown hgrow hk2
            have cg2 := cell_of_one hg2
            have fg2 := free_of_one hg2
            have d1' : w2.cell? ⟨b7n, 1, none⟩ = some (.int .i64 s.f1) := by simp [World.cell?, hb2]
            have hne : ¬ (g = b7n) := by
              rintro rfl
              rw [hg2] at hb2
              injection hb2 with hb2
              injection hb2 with _ hb2
              exact absurd hb2 (by decide)
            have hne' : ¬ (b7n = g) := fun e => hne e.symm
            clear hg2 hb2 cg d1 d2 hx1 hlast
            by_cases hk1 : 1 ≤ s.f1
            · have hk1' : decide (1 ≤ s.f1) = true := decide_eq_true hk1
              by_cases hk3 : s.f1 ≤ 3
              · have hk3' : decide (s.f1 ≤ 3) = true := decide_eq_true hk3
                go_wp2
                repeat (go_quiet (fail); try go_wp2)
                go_ret
                rw [HST.out, if_neg HKK.out, if_pos ⟨hk1, hk3⟩]
                exact ⟨rfl, HB2.out.setCell (p := ⟨g, 0, none⟩) e4 _, fun q h => by cases h; exact HP2.out⟩
              · have hk3' : decide (s.f1 ≤ 3) = false := decide_eq_false hk3
                go_wp2
                repeat (go_quiet (fail); try go_wp2)
                go_ret
                rw [HST.out, if_neg HKK.out, if_neg (by omega)]
                exact ⟨rfl, HB2.out.setCell (p := ⟨g, 0, none⟩) e4 _, fun q h => by cases h⟩
            · have hk1' : decide (1 ≤ s.f1) = false := decide_eq_false hk1
              go_wp2
              repeat (go_quiet (fail); try go_wp2)
              go_ret
              rw [HST.out, if_neg HKK.out, if_neg (by omega)]
              exact ⟨rfl, HB2.out.setCell (p := ⟨g, 0, none⟩) e4 _, fun q h => by cases h⟩
      · have hx1 : (x == s.f2) = false := beq_eq_false_iff_ne.mpr hx
        have hx2 : (x != s.f2) = true := bne_iff_ne.mpr hx
        have HX := Aside0.mk hx
        clear hx
        have fg := free_of_one HE1.out
        go_wp2
        repeat (go_quiet (fail); try go_wp2)
        go_region
        all_goals
          go_wp2
          go_roundg q.length
          case measure => have := HK.out; simp at this; omega
          case rel =>
            refine ⟨q, ⟨rfl⟩, ⟨?_⟩, ⟨fun y hy => HPP.out y (by simp [hy])⟩, ⟨by omega⟩, ⟨?_⟩, ⟨(pw_below_drewN HB.out _).setCell (p := ⟨g, 0, none⟩) e4 _⟩, ⟨?_⟩⟩
            · rw [HQ.out, List.concat_eq_append, shape_Check.pop_miss _ _ _ HX.out]
            · have hgb : w0.heap.size ≤ gb := (HE2.out.lt gb rfl).1
              refine ⟨_, one_setCell (blk_drewN HE1.out _), ownsRow_setCell_other (pw_own_drewN ⟨by simp, .inr ⟨gb, cap, cur, rfl, hgb, HCUR.out, by omega, hcm, HCS.out, ?_⟩⟩ _) HE3.out _, HE3.out, e4⟩
              have h := HTK.out
              rw [List.concat_eq_append, List.map_append] at h
              have h2 := congrArg (List.take q.length) h
              rw [List.take_take, Nat.min_eq_left (by omega)] at h2
              rw [Nat.mul_one, h2]
              simp
            · refine blk_far (blk_drewN HB7.out _) (fun e => ?_) _
              have e' : b7n = g := e
              have h1 := HB7.out
              rw [e', HE1.out] at h1
              injection h1 with h1
              injection h1 with _ h1
              exact absurd h1 (by decide)

theorem shape_Check.pop_sub (p : List Int) (a : Int) : ∀ x ∈ shape_Check.pop p a, x ∈ p := by
  intro x hx
  unfold shape_Check.pop at hx
  rw [List.mem_reverse] at hx
  exact List.mem_reverse.1 ((List.dropWhile_sublist _).subset hx)
theorem shape_Check.pop_len (p : List Int) (a : Int) : (shape_Check.pop p a).length ≤ p.length := by
  unfold shape_Check.pop
  have := (List.dropWhile_sublist (fun x => x != a) (l := p.reverse)).length_le
  simpa using this
theorem shape_Check.step_in (l0 : List (S108)) (p q : List Int) (i : Int) (h0 : 0 ≤ i) (hi : i < l0.length) (hp : ∀ x ∈ p, 0 ≤ x ∧ x < (l0.length : Int)) (h : shape_Check.step l0 p i = some q) :
    q.length ≤ p.length + 1 ∧ ∀ x ∈ q, 0 ≤ x ∧ x < (l0.length : Int) := by
  have hl := shape_Check.pop_len p (rd_T108 l0 i).f2
  unfold shape_Check.step at h
  split at h
  · split at h
    · cases h
    · split at h
      · cases h
        exact ⟨by simp, fun x hx => by simp at hx; subst hx; exact ⟨h0, hi⟩⟩
      · cases h
  · split at h
    · cases h
    · split at h
      · cases h
        refine ⟨by simp; omega, fun x hx => ?_⟩
        rcases List.mem_append.1 hx with hx | hx
        · exact hp x (shape_Check.pop_sub _ _ _ hx)
        · simp at hx; subst hx; exact ⟨h0, hi⟩
      · cases h
theorem shape_Check.max_as (a b : Int) : max a b = if a < b then b else a := by omega
theorem shape_Check.At_cell {w0 w : World} {g : Nat} {p : List Int} (h : shape_Check.At w0 w g p) : ∃ a c, w.cell? ⟨g, 0, none⟩ = some (.slice a p.length c) := by
  obtain ⟨v, e1, e2, -, -⟩ := h
  rcases e2.2 with ⟨rfl, h⟩ | ⟨gb, cap, cur, rfl, -⟩
  · exact ⟨none, 0, by rw [h]; exact cell_of_one e1⟩
  · exact ⟨_, _, cell_of_one e1⟩
set_option maxHeartbeats 2000000 in
set_option maxRecDepth 100000 in
theorem shape_Check.calls (A0 : Option Addr) (c0 : Nat) (l0 : List (S108)) (r : Int) (w : World) (hr0 : Kd.C k108 w A0 l0.length l0) (hc0 : l0.length ≤ c0) (h : shape_Check.f l0 = some r) :
    Calls Try.prog 113 #[.slice A0 l0.length c0] w fun e w' => e = .returned (.int .i64 r) ∧ Below w.heap.size w w' := by
  unfold shape_Check.f at h
  have H := Option.some.inj h
  clear h
  by_cases h60 : 60 < l0.length
  · rw [if_pos h60] at H
    subst H
    have c1 : decide (60 < l0.length) = true := decide_eq_true h60
    have c2 : decide ((60 : Int) < (l0.length : Int)) = true := decide_eq_true (by omega)
    go_enter Try.func113, Try.ntmps113
    go_wp2
    go_ret
    exact ⟨rfl, Below.refl _ _⟩
  · rw [if_neg h60] at H
    have c1 : decide (60 < l0.length) = false := decide_eq_false h60
    have c2 : decide ((60 : Int) < (l0.length : Int)) = false := decide_eq_false (by omega)
    by_cases hz : l0.length = 0
    · rw [if_pos hz] at H
      subst H
      have c3 : ((l0.length : Int) == 0) = true := beq_iff_eq.mpr (by omega)
      have c4 : l0 = [] := List.length_eq_zero_iff.1 hz
      subst c4
      go_enter Try.func113, Try.ntmps113
      go_wp2
      go_ret
      exact ⟨rfl, Below.refl _ _⟩
    · rw [if_neg hz] at H
      have c3 : ((l0.length : Int) == 0) = false := beq_eq_false_iff_ne.mpr (by omega)
      have c4 : ¬ (l0 = []) := fun e => hz (by rw [e]; rfl)
      have HH := Aside0.mk H
      have HR := Aside0.mk hr0
      clear H hr0
      go_enter Try.func113, Try.ntmps113
      go_wp2_with fail
      have s0 : w.heap.size ≤ (w.alloc (.cells #[.slice none 0 0] 174)).heap.size := by simp
      have b3 : (w.alloc (.cells #[.slice none 0 0] 174)).heap[w.heap.size]? = some (.cells #[.slice none 0 0] 174 (0, 0)) := heap_alloc_new w _
      have B1 : Below w.heap.size w (w.alloc (.cells #[.slice none 0 0] 174)) := (Below.refl _ _).alloc (Nat.le_refl _) _
      have P1 : shape_Check.At w (w.alloc (.cells #[.slice none 0 0] 174)) w.heap.size [] := ⟨_, b3, World.ownsRow_nil _ _ _ _, by simp [Value.ownBlock], Nat.le_refl _⟩
      have HP := Aside0.mk P1
      have HB := Aside0.mk B1
      clear P1 B1 b3 s0
      go_loopg [4, 16] l0.length (fun kq v4 v16 wr => ∃ (n : Nat) (p : List Int) (deep : Int), Aside0 (kq = n) ∧ Aside0 (n ≤ l0.length) ∧ v16 = .int .i64 ((l0.length : Int) - (n : Int)) ∧ v4 = .int .i64 deep ∧ Aside0 (shape_Check.run l0 l0.length [] 0 = shape_Check.run l0 n p deep) ∧ Aside0 (p.length + n ≤ l0.length) ∧ Aside0 (∀ x ∈ p, 0 ≤ x ∧ x < (l0.length : Int)) ∧ Aside0 (shape_Check.At w wr w.heap.size p) ∧ Aside0 (Below w.heap.size w wr))
      case atStart => exact ⟨l0.length, [], 0, ⟨rfl⟩, ⟨Nat.le_refl _⟩, by simp, rfl, ⟨rfl⟩, ⟨by simp⟩, ⟨fun x hx => by cases hx⟩, HP, HB⟩
      case round =>
        clear HP HB
        obtain ⟨n, p, deep, HK, HN, rfl, rfl, HRUN, HPL, HPP, HP, HB⟩ := hrel
        cases n with
        | zero =>
          have hlt : decide ((l0.length : Int) - ((0 : Nat) : Int) < (l0.length : Int)) = false := decide_eq_false (by omega)
          have hr : (match some deep with | none => 1 | some d => if 12 < d then (6 : Int) else 0) = r := by have := HH.out; rw [HRUN.out] at this; exact this
          have hr' : (if 12 < deep then (6 : Int) else 0) = r := hr
          clear hr
          by_cases h12 : 12 < deep
          · rw [if_pos h12] at hr'
            subst hr'
            go_wp2
            go_ret
            exact ⟨rfl, HB.out⟩
          · rw [if_neg h12] at hr'
            subst hr'
            go_wp2
            go_ret
            exact ⟨rfl, HB.out⟩
        | succ n =>
          have hn1 := HN.out
          have hlt : decide ((l0.length : Int) - ((n + 1 : Nat) : Int) < (l0.length : Int)) = true := decide_eq_true (by omega)
          generalize hi : (l0.length : Int) - ((n + 1 : Nat) : Int) = i at *
          have hi0 : 0 ≤ i := by omega
          have hi1 : i < (l0.length : Int) := by omega
          have HI := Aside0.mk hi
          clear hi hn1
          have hcall := shape_Check.meet w.heap.size A0 c0 l0 i p w wr HR.out hi0 hi1 (by omega) HPP.out (by have := HPL.out; omega) HB.out HP.out
          have HC := Aside0.mk hcall
          clear hcall
          have hrun : shape_Check.run l0 (n + 1) p deep = match shape_Check.step l0 p i with | none => none | some q => shape_Check.run l0 n q (max deep q.length) := by
            rw [← HI.out]; simp only [shape_Check.run]; rfl
          have HRN := Aside0.mk hrun
          clear hrun
          cases hs : shape_Check.step l0 p i with
          | none =>
            rw [hs] at HC HRN
            have hr : r = 1 := by have := HH.out; rw [HRUN.out, HRN.out] at this; exact this.symm
            subst hr
            clear hs
            go_wp2_with (go_at_call 141; refine HC.out.mono ?_; rintro e w' ⟨rfl, hb, -⟩)
            go_ret
            exact ⟨rfl, hb⟩
          | some q =>
            obtain ⟨hq1, hq2⟩ := shape_Check.step_in l0 p q i hi0 hi1 HPP.out hs
            rw [hs] at HC HRN
            clear hs
            have hqn : q.length ≤ 60 := by have := HPL.out; omega
            by_cases hd : deep < (q.length : Int)
            all_goals
              go_wp2_with (go_at_call 141; refine HC.out.mono ?_; rintro e w' ⟨rfl, hb, hat⟩; have HAT := Aside0.mk (hat q rfl); clear hat; obtain ⟨a3, c3', hcell⟩ := shape_Check.At_cell HAT.out)
              go_roundg n
              case measure => have := HK.out; omega
              case rel =>
                refine ⟨n, q, max deep q.length, ⟨rfl⟩, ⟨kn_ HN⟩, ?_, ?_, ⟨?_⟩, ⟨kn_ HPL⟩, ⟨hq2⟩, HAT, ⟨hb⟩⟩
                · have := HI.out
                  rw [show i + 1 = (l0.length : Int) - (n : Int) by omega]
                · congr 1; omega
                · rw [HRUN.out, HRN.out]


/-! ### print_small: function 143 -/
def print_small.f (a0 : Int) : Option (Bool) := if a0 ≥ (-1000) then (some (decide (a0 ≤ 1000))) else (some false)
set_option maxHeartbeats 8000000 in
set_option maxRecDepth 100000 in
theorem print_small.calls (a0 : Int) (r : Bool) (w : World) (h : print_small.f a0 = some r) :
    Calls Try.prog 143 #[.int .i64 a0] w fun e w' => e = .returned (.bool r) ∧ Drawn0 w w' := by
  unfold print_small.f at h
  have H := h
  clear h
  by_cases c2 : a0 ≥ (-1000)
  · rw [if_pos c2] at H
    have c2b0 : decide ((-1000) ≤ a0) = true := decide_eq_true c2
    clear c2
    obtain rfl := Option.some.inj H
    go_enter Try.func143, Try.ntmps143
    go_wp2
    go_ret
    exact ⟨rl_, dw_⟩
  · rw [if_neg c2] at H
    have c2b0 : decide ((-1000) ≤ a0) = false := decide_eq_false c2
    clear c2
    obtain rfl := Option.some.inj H
    go_enter Try.func143, Try.ntmps143
    go_wp2
    go_ret
    exact ⟨rl_, dw_⟩

/-! ### print_badVar: function 116 -/
def print_badVar.f (k : Nat) (a0_0 : ByteArray) (a0_1 : Int) (a0_2 : Int) (a0_3 : Int) : Option (Bool) := (names_Is.f k a0_0).bind fun t116 => (if t116 = true then ((print_small.f a0_1).bind fun t117 => (if t117 = true then ((print_small.f a0_2).bind fun t118 => (if t118 = true then ((print_small.f a0_3).bind fun t119 => (some (!t119))) else (some true))) else (some true))) else (some true))
theorem print_badVar.mono : ∀ a0 a1 a2 a3 k, LeO (print_badVar.f k a0 a1 a2 a3) (print_badVar.f (k + 1) a0 a1 a2 a3) := by
  intro a0 a1 a2 a3 k
  unfold print_badVar.f
  exact mo_
instance print_badVar.lc : ∀ a0 a1 a2 a3 k, LeC (print_badVar.f k a0 a1 a2 a3) (print_badVar.f (k + 1) a0 a1 a2 a3) := fun a0 a1 a2 a3 k => ⟨print_badVar.mono a0 a1 a2 a3 k⟩
set_option maxHeartbeats 8000000 in
set_option maxRecDepth 100000 in
theorem print_badVar.calls (k : Nat) (a0_0 : ByteArray) (a0_1 : Int) (a0_2 : Int) (a0_3 : Int) (r : Bool) (w : World) (h : print_badVar.f k a0_0 a0_1 a0_2 a0_3 = some r) :
  Calls Try.prog 116 #[.agg #[.string a0_0, .int .i64 a0_1, .int .i64 a0_2, .int .i64 a0_3]] w fun e w' => e = .returned (.bool r) ∧ Below w.heap.size w w' := by
 have hu152 := Try.underlying152
 have HB := Aside0.mk (Below.refl w.heap.size w)
 unfold print_badVar.f at h
 have H := h
 clear h
 replace H := bi_ H; obtain ⟨t116, A2, H⟩ := H
 replace H := ib_ H; obtain ⟨rfl, H⟩ | ⟨rfl, H⟩ := H
 ·obtain rfl := Option.some.inj H
  go_enter Try.func116, Try.ntmps116
  go_wp2_with (first | ((with_reducible refine gate_dst (N := 1) rfl ?_); refine bx_ HB (N := 1) (cs := #[.string a0_0, .int .i64 a0_1, .int .i64 a0_2, .int .i64 a0_3]) (t := 152) ?_; clear HB; intro gb115 w21 HB BK115 GW115 GE115; obtain ⟨z22_0, z22_1, z22_2, z22_3, y22_0, y22_1, y22_2, y22_3⟩ := cw4_ BK115.out) | ((with_reducible refine gate_callee (f := 112) rfl ?_); refine gl_ (some 5) Try.func112 #[.string a0_0] ?_; (with_reducible refine cm_ (names_Is.calls k a0_0 false _ A2.out) ?_); intro w23 hb; refine ⟨_, rfl, ?_⟩; replace BK115 := tb_ BK115 hb; replace HB := ts_ HB hb; clear hb))
  go_ret
  exact ⟨rv_, bw_⟩

 replace H := bi_ H; obtain ⟨t117, A4, H⟩ := H
 replace H := ib_ H; obtain ⟨rfl, H⟩ | ⟨rfl, H⟩ := H
 ·obtain rfl := Option.some.inj H
  go_enter Try.func116, Try.ntmps116
  go_wp2_with (first | ((with_reducible refine gate_dst (N := 1) rfl ?_); refine bx_ HB (N := 1) (cs := #[.string a0_0, .int .i64 a0_1, .int .i64 a0_2, .int .i64 a0_3]) (t := 152) ?_; clear HB; intro gb115 w17 HB BK115 GW115 GE115; obtain ⟨z18_0, z18_1, z18_2, z18_3, y18_0, y18_1, y18_2, y18_3⟩ := cw4_ BK115.out) | ((with_reducible refine gate_callee (f := 112) rfl ?_); refine gl_ (some 5) Try.func112 #[.string a0_0] ?_; (with_reducible refine cm_ (names_Is.calls k a0_0 true _ A2.out) ?_); intro w19 hb; refine ⟨_, rfl, ?_⟩; replace BK115 := tb_ BK115 hb; replace HB := ts_ HB hb; clear hb; obtain ⟨z20_0, z20_1, z20_2, z20_3, y20_0, y20_1, y20_2, y20_3⟩ := cw4_ BK115.out) | (go_at_call 143; (with_reducible refine (print_small.calls a0_1 false _ A4.out).mono ?_); rintro e w' ⟨rfl, ⟨nd, rfl⟩⟩))
  go_ret
  exact ⟨rv_, bw_⟩
 replace H := bi_ H; obtain ⟨t118, A6, H⟩ := H
 replace H := ib_ H; obtain ⟨rfl, H⟩ | ⟨rfl, H⟩ := H
 ·obtain rfl := Option.some.inj H
  go_enter Try.func116, Try.ntmps116
  go_wp2_with (first | ((with_reducible refine gate_dst (N := 1) rfl ?_); refine bx_ HB (N := 1) (cs := #[.string a0_0, .int .i64 a0_1, .int .i64 a0_2, .int .i64 a0_3]) (t := 152) ?_; clear HB; intro gb115 w13 HB BK115 GW115 GE115; obtain ⟨z14_0, z14_1, z14_2, z14_3, y14_0, y14_1, y14_2, y14_3⟩ := cw4_ BK115.out) | ((with_reducible refine gate_callee (f := 112) rfl ?_); refine gl_ (some 5) Try.func112 #[.string a0_0] ?_; (with_reducible refine cm_ (names_Is.calls k a0_0 true _ A2.out) ?_); intro w15 hb; refine ⟨_, rfl, ?_⟩; replace BK115 := tb_ BK115 hb; replace HB := ts_ HB hb; clear hb; obtain ⟨z16_0, z16_1, z16_2, z16_3, y16_0, y16_1, y16_2, y16_3⟩ := cw4_ BK115.out) | (go_at_call 143; (with_reducible refine (print_small.calls a0_1 true _ A4.out).mono ?_); rintro e w' ⟨rfl, ⟨nd, rfl⟩⟩) | (go_at_call 143; (with_reducible refine (print_small.calls a0_2 false _ A6.out).mono ?_); rintro e w' ⟨rfl, ⟨nd, rfl⟩⟩))
  go_ret
  exact ⟨rv_, bw_⟩
 replace H := bi_ H; obtain ⟨t119, A8, H⟩ := H
 obtain rfl := Option.some.inj H
 go_enter Try.func116, Try.ntmps116
 go_wp2_with (first | ((with_reducible refine gate_dst (N := 1) rfl ?_); refine bx_ HB (N := 1) (cs := #[.string a0_0, .int .i64 a0_1, .int .i64 a0_2, .int .i64 a0_3]) (t := 152) ?_; clear HB; intro gb115 w9 HB BK115 GW115 GE115; obtain ⟨z10_0, z10_1, z10_2, z10_3, y10_0, y10_1, y10_2, y10_3⟩ := cw4_ BK115.out) | ((with_reducible refine gate_callee (f := 112) rfl ?_); refine gl_ (some 5) Try.func112 #[.string a0_0] ?_; (with_reducible refine cm_ (names_Is.calls k a0_0 true _ A2.out) ?_); intro w11 hb; refine ⟨_, rfl, ?_⟩; replace BK115 := tb_ BK115 hb; replace HB := ts_ HB hb; clear hb; obtain ⟨z12_0, z12_1, z12_2, z12_3, y12_0, y12_1, y12_2, y12_3⟩ := cw4_ BK115.out) | (go_at_call 143; (with_reducible refine (print_small.calls a0_1 true _ A4.out).mono ?_); rintro e w' ⟨rfl, ⟨nd, rfl⟩⟩) | (go_at_call 143; (with_reducible refine (print_small.calls a0_2 true _ A6.out).mono ?_); rintro e w' ⟨rfl, ⟨nd, rfl⟩⟩) | (go_at_call 143; (with_reducible refine (print_small.calls a0_3 t119 _ A8.out).mono ?_); rintro e w' ⟨rfl, ⟨nd, rfl⟩⟩))
 go_ret
 exact ⟨rv_, bw_⟩
/-! ### api_Var_142: function 142 -/
open Go.Proofs.Ytbkaiojofgmbnaa.XFind in
set_option maxHeartbeats 2000000 in
set_option maxRecDepth 100000 in
theorem IndexFunc_Var.calls (p : S152 → Bool) (g : Nat) (lb : Array Value) (eg : ∀ args w, (callFunc g args).run Try.prog w = .ok (.enter g args) w) (A0 : Option Addr) (c0 : Nat) (l0 : List (S152)) (w : World) (hr0 : Kd.C k152 w A0 l0.length l0)
    (hp : ∀ W, Below w.heap.size w W → ∀ (x : S152), x ∈ l0 → Calls Try.prog g (#[.agg #[.string x.f0, .int .i64 x.f1, .int .i64 x.f2, .int .i64 x.f3]] ++ lb) W fun e w' => e = .returned (.bool (p x)) ∧ Below w.heap.size w w') :
    Calls Try.prog 142 #[.slice A0 l0.length c0, .func (.func g) #[] lb] w fun e w' => e = .returned (.int .i64 (idxF p l0)) ∧ Below w.heap.size w w' := by
  have hbig := hr0.2.1
  have HR := Aside0.mk hr0
  have HPF := Aside0.mk hp
  clear hr0 hp
  have hu := Try.underlying152
  go_enter Try.func142, Try.ntmps142
  go_wp2
  go_loopg [8] l0.length (fun kq v8 wr => ∃ n : Nat, Aside0 (n ≤ l0.length) ∧ Aside0 (l0.length - n = kq) ∧ v8 = .int .i64 (n : Int) ∧ Aside0 (Below w.heap.size w wr) ∧ Aside0 (∀ j : Nat, j < n → p (l0.getD j z152) = false))
  case atStart => exact ⟨0, ⟨Nat.zero_le _⟩, ⟨by omega⟩, rfl, ⟨Below.refl _ _⟩, ⟨fun j hj => absurd hj (Nat.not_lt_zero _)⟩⟩
  case round =>
    obtain ⟨n, HN, HK, rfl, HB, HP⟩ := hrel
    by_cases hlt : n < l0.length
    · have hlt' : decide ((n : Int) < (l0.length : Int)) = true := decide_eq_true (by omega)
      have hC := Kd.C_below HR.out HB.out
      obtain ⟨ad, e1, hx0, hx1, hx2, hx3⟩ := at_T152 hC (n : Int) (by omega) (by omega)
      subst e1
      rw [Int.toNat_natCast] at hx0 hx1 hx2 hx3
      have hy0 : rd_T152 l0 (n : Int) = l0.getD n z152 := by unfold rd_T152; rw [Int.toNat_natCast]
      rw [hy0] at hx0 hx1 hx2 hx3
      have hmem : l0.getD n z152 ∈ l0 := by simp only [List.getD, List.getElem?_eq_getElem hlt, Option.getD_some]; exact List.getElem_mem hlt
      have hcall := HPF.out wr HB.out (l0.getD n z152) hmem
      generalize hy : l0.getD n z152 = y at *
      have HY := Aside0.mk hy
      clear hy hC hy0 hmem
      cases hq : p y with
      | true =>
        rw [hq] at hcall
        have HC := Aside0.mk hcall
        have HQ := Aside0.mk hq
        clear hcall hq
        go_wp2_with fail
        refine HC.out.mono ?_
        rintro e w' ⟨rfl, hb'⟩
        go_wp2
        go_ret
        refine ⟨?_, hb'⟩
        rw [idxF_hit p l0 z152 n hlt (by rw [HY.out]; exact HQ.out) HP.out]
        rfl
      | false =>
        rw [hq] at hcall
        have HC := Aside0.mk hcall
        have HQ := Aside0.mk hq
        clear hcall hq
        go_wp2_with fail
        refine HC.out.mono ?_
        rintro e w' ⟨rfl, hb'⟩
        go_wp2
        go_roundg (l0.length - (n + 1))
        case measure => have := HK.out; omega
        case rel =>
          refine ⟨n + 1, ⟨hlt⟩, ⟨rfl⟩, by go_num, ⟨hb'⟩, ⟨fun j hj => ?_⟩⟩
          by_cases e : j = n
          · subst e; rw [HY.out]; exact HQ.out
          · exact HP.out j (by omega)
    · have hlt' : decide ((n : Int) < (l0.length : Int)) = false := decide_eq_false (by omega)
      have hn : n = l0.length := by have := HN.out; omega
      have HNN := Aside0.mk hn
      clear hn
      go_wp2
      go_ret
      exact ⟨by rw [idxF_miss p l0 z152 (fun j hj => HP.out j (by have := HNN.out; omega))]; rfl, HB.out⟩


/-! ### api_Var_115: function 115 -/
-- USES slices.IndexFunc[[]semblance/api.Var,semblance/api.Var]
open Go.Proofs.Ytbkaiojofgmbnaa.XFind in
set_option maxHeartbeats 2000000 in
theorem ContainsFunc_Var.calls (p : S152 → Bool) (g : Nat) (lb : Array Value) (eg : ∀ args w, (callFunc g args).run Try.prog w = .ok (.enter g args) w) (A0 : Option Addr) (c0 : Nat) (l0 : List (S152)) (w : World) (hr0 : Kd.C k152 w A0 l0.length l0)
    (hp : ∀ W, Below w.heap.size w W → ∀ (x : S152), x ∈ l0 → Calls Try.prog g (#[.agg #[.string x.f0, .int .i64 x.f1, .int .i64 x.f2, .int .i64 x.f3]] ++ lb) W fun e w' => e = .returned (.bool (p x)) ∧ Below w.heap.size w w') :
    Calls Try.prog 115 #[.slice A0 l0.length c0, .func (.func g) #[] lb] w fun e w' => e = .returned (.bool (l0.any p)) ∧ Below w.heap.size w w' := by
  have hcall := IndexFunc_Var.calls p g lb eg A0 c0 l0 w hr0 hp
  have HANY := Aside0.mk (idxF_any p l0)
  generalize idxF p l0 = i at hcall HANY
  have HC := Aside0.mk hcall
  clear hp hr0 hcall
  go_enter Try.func115, Try.ntmps115
  go_wp2_with (go_at_call 142; refine HC.out.mono ?_; rintro e w' ⟨rfl, hb'⟩)
  go_ret
  exact ⟨by rw [← HANY.out]; rfl, hb'⟩
-- FAKE semblance/print.badVar
-- USES semblance/print.badVar
def api_Var_115.f (k : Nat) (l0 : List (S152)) (_ : Int) : Option Bool := Go.Proofs.Ytbkaiojofgmbnaa.XShort.anyO l0 (fun x => print_badVar.f k x.f0 x.f1 x.f2 x.f3)
theorem api_Var_115.mono : ∀ a0 a1 k, LeO (api_Var_115.f k a0 a1) (api_Var_115.f (k + 1) a0 a1) := fun a0 a1 k => Go.Proofs.Ytbkaiojofgmbnaa.XShort.anyO_mono (fun x _ => print_badVar.mono _ _ _ _ k)
instance api_Var_115.lc : ∀ a0 a1 k, LeC (api_Var_115.f k a0 a1) (api_Var_115.f (k + 1) a0 a1) := fun a0 a1 k => ⟨api_Var_115.mono a0 a1 k⟩
theorem api_Var_115.calls (k : Nat) (A0 : Option Addr) (c0 : Nat) (l0 : List (S152)) (a1 : Int) (r : Bool) (w : World) (hr0 : Kd.C k152 w A0 l0.length l0) (hc0 : l0.length ≤ c0)
    (h : api_Var_115.f k l0 a1 = some r) :
    Calls Try.prog 115 #[.slice A0 l0.length c0, .func (.func 116) #[] #[]] w fun e w' => e = .returned (.bool r) ∧ Below w.heap.size w w' := by
  obtain ⟨ha, rfl⟩ := Go.Proofs.Ytbkaiojofgmbnaa.XShort.anyO_some h
  have eg := Go.Proofs.enters_of Try.func116 (by kernel_rfl) rfl
  exact ContainsFunc_Var.calls _ _ #[] eg A0 c0 l0 w hr0 fun W hW x hx => (print_badVar.calls k x.f0 x.f1 x.f2 x.f3 _ W (ha x hx)).mono fun e w' ⟨he, hw⟩ => ⟨he, below_then hW hW.size hw⟩


/-! ### term_Arity: function 193 -/
mutual
def term_Arity.j0 : Nat → Int → Bool → Option (Int)
  | 0, _, _ => none
  | k + 1, x0, x3 => if x3 = true then (some (-1)) else (if x0 = 3 then (term_Arity.j1 k x0 true) else (term_Arity.j1 k x0 (x0 == 12)))
def term_Arity.j1 : Nat → Int → Bool → Option (Int)
  | 0, _, _ => none
  | k + 1, x0, x10 => if x10 = true then (some 1) else (if x0 ≤ 2 then (some 0) else (if x0 ≥ 9 then (if x0 ≤ 11 then (some 0) else (some 2)) else (some 2)))
end
def term_Arity.f (k : Nat) (a0 : Int) : Option (Int) := if a0 < 1 then (term_Arity.j0 k a0 true) else (term_Arity.j0 k a0 (decide (a0 > 20)))
theorem term_Arity.mono_l : ∀ k, (∀ y0 y1, LeO (term_Arity.j0 k y0 y1) (term_Arity.j0 (k + 1) y0 y1)) ∧ (∀ y0 y1, LeO (term_Arity.j1 k y0 y1) (term_Arity.j1 (k + 1) y0 y1))
  | 0 => ⟨fun _ _ r h => by simp [term_Arity.j0] at h, fun _ _ r h => by simp [term_Arity.j1] at h⟩
  | k + 1 => by
    obtain ⟨ih0, ih1⟩ := term_Arity.mono_l k
    refine ⟨?_, ?_⟩
    · intro y0 y1
      unfold term_Arity.j0
      exact mo_
    · intro y0 y1
      unfold term_Arity.j1
      exact mo_
theorem term_Arity.mono : ∀ a0 k, LeO (term_Arity.f k a0) (term_Arity.f (k + 1) a0) := by
  intro a0 k
  obtain ⟨ih0, ih1⟩ := term_Arity.mono_l k
  unfold term_Arity.f
  exact mo_
instance term_Arity.lc : ∀ a0 k, LeC (term_Arity.f k a0) (term_Arity.f (k + 1) a0) := fun a0 k => ⟨term_Arity.mono a0 k⟩
set_option maxHeartbeats 8000000 in
set_option maxRecDepth 100000 in
theorem term_Arity.calls (k : Nat) (a0 : Int) (r : Int) (w : World) (h : term_Arity.f k a0 = some r) :
  Calls Try.prog 193 #[.int .i64 a0] w fun e w' => e = .returned (.int .i64 r) ∧ Drawn0 w w' := by
 unfold term_Arity.f at h
 have HC2 := Aside0.mk h
 clear h
 go_enter Try.func193, Try.ntmps193
 go_upto_region 1 with (fail)
 go_cut [3] (fun v3 wc => ∃ (kq : Nat) (x3_1 : Bool), v3 = .bool x3_1 ∧ Aside0 (term_Arity.j0 kq a0 x3_1 = some r) ∧ Aside0 (kq ≤ k) ∧ Drawn0 w wc)
 case first =>
  have H := HC2.out
  clear HC2
  replace H := iu_ H; obtain ⟨c3b0, H⟩ | ⟨c3b0, H⟩ := H
  ·(first | rw [c3b0] | (simp only [i64_w, i32_w]; rw [c3b0]) | skip)
   have H' := Aside0.mk H
   clear H
   go_wp2
   go_meet
   case rel => exact ⟨_, (true), rl_, H', ⟨km_⟩, dw_⟩
  (first | rw [c3b0] | (simp only [i64_w, i32_w]; rw [c3b0]) | skip)
  have H' := Aside0.mk H
  clear H
  go_wp2
  go_meet
  case rel => exact ⟨_, (decide (a0 > 20)), rl_, H', ⟨km_⟩, dw_⟩
 case rest =>
  clear HC2
  obtain ⟨kq, x3_1, rfl, HA, HJ1, ⟨mc1, rfl⟩⟩ := hcut
  cases kq with
  | zero => exact absurd HA.out (by simp [term_Arity.j0])
  | succ kj1 =>
   have H := HA.out
   clear HA
   simp only [term_Arity.j0] at H
   replace H := ie_ H; obtain ⟨rfl, H⟩ | ⟨rfl, H⟩ := H
   ·obtain rfl := Option.some.inj H
    go_wp2
    go_ret
    exact ⟨rl_, dw_⟩
   have HC5 := Aside0.mk H
   clear H
   go_upto_region 3 with (fail)
   go_cut [10] (fun v10 wc => ∃ (kq : Nat) (x10_4 : Bool), v10 = .bool x10_4 ∧ Aside0 (term_Arity.j1 kq a0 x10_4 = some r) ∧ Aside0 (kq ≤ kj1) ∧ Drawn0 w wc)
   case first =>
    have H := HC5.out
    clear HC5
    replace H := ic_ H; obtain ⟨c6, H⟩ | ⟨c6, H⟩ := H
    ·have c6b0 : (a0 == 3) = false := beq_eq_false_iff_ne.mpr c6
     have c6b1 : (a0 != 3) = true := bne_iff_ne.mpr c6
     (first | rw [c6b0] | (simp only [i64_w, i32_w]; rw [c6b0]) | skip)
     have H' := Aside0.mk H
     clear H
     go_wp2
     go_meet
     case rel => exact ⟨_, ((a0 == 12)), rl_, H', ⟨kn_ HJ1⟩, dw_⟩
    have c6b0 : (a0 == 3) = true := beq_iff_eq.mpr c6
    have c6b1 : (a0 != 3) = false := bne_eq_false_iff_eq.mpr c6
    clear c6
    (first | rw [c6b0] | (simp only [i64_w, i32_w]; rw [c6b0]) | skip)
    have H' := Aside0.mk H
    clear H
    go_wp2
    go_meet
    case rel => exact ⟨_, (true), rl_, H', ⟨kn_ HJ1⟩, dw_⟩
   case rest =>
    clear HC5
    try clear c4
    obtain ⟨kq, x10_4, rfl, HA, HJ4, ⟨mc4, rfl⟩⟩ := hcut
    cases kq with
    | zero => exact absurd HA.out (by simp [term_Arity.j1])
    | succ kj4 =>
     have H := HA.out
     clear HA
     simp only [term_Arity.j1] at H
     replace H := ie_ H; obtain ⟨rfl, H⟩ | ⟨rfl, H⟩ := H
     ·obtain rfl := Option.some.inj H
      go_wp2
      go_ret
      exact ⟨rl_, dw_⟩
     replace H := iu_ H; obtain ⟨c8b0, H⟩ | ⟨c8b0, H⟩ := H
     ·obtain rfl := Option.some.inj H
      go_wp2
      go_ret
      exact ⟨rl_, dw_⟩
     replace H := ic_ H; obtain ⟨c9, H⟩ | ⟨c9, H⟩ := H
     ·have c9b0 : decide (9 ≤ a0) = false := decide_eq_false c9
      clear c9
      obtain rfl := Option.some.inj H
      go_wp2
      go_ret
      exact ⟨rl_, dw_⟩

     have c9b0 : decide (9 ≤ a0) = true := decide_eq_true c9
     clear c9
     replace H := iu_ H; obtain ⟨c10b0, H⟩ | ⟨c10b0, H⟩ := H
     ·obtain rfl := Option.some.inj H
      go_wp2
      go_ret
      exact ⟨rl_, dw_⟩
     obtain rfl := Option.some.inj H
     go_wp2
     go_ret
     exact ⟨rl_, dw_⟩
end Go.Proofs.Ytbkaiojofgmbnaa.XL
