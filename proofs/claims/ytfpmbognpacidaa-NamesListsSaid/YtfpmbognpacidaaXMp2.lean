-- written by wip/xprint.py out of the translation
import Derived.Test.YtfpmbognpacidaaXMp0
import Derived.Test.YtfpmbognpacidaaXMp1
namespace Go.Proofs.Ytfpmbognpacidaa.XM
open Go.RowKit Go.Proofs.YtfpmbognpacidaaW.PrintWords Go.Proofs.YtfpmbognpacidaaW.PrintLast Go.Proofs.YtfpmbognpacidaaW.PrintMore
attribute [local go_sem] max2_int min2_int max_two min_two max_three min_three max_four min_four   -- for this text's walks alone
set_option linter.unusedVariables false
set_option linter.unusedSimpArgs false

/-! ### names_Is: function 32 -/
/-- may a byte stand at a place of a name? -/
def names_Is.ok (i c : Nat) : Bool := (decide (97 ≤ c) && decide (c ≤ 122)) || (i != 0 && ((decide (48 ≤ c) && decide (c ≤ 57)) || c == 95))
def names_Is.body (s : ByteArray) : Bool := (List.range s.size).all fun i => names_Is.ok i (bt s i).toNat
def names_Is.f (k : Nat) (a0 : ByteArray) : Option (Bool) :=
  if a0.size = 0 then some false else if 12 < a0.size then some false else (names_Keyword.f k a0).bind fun b => if b = true then some false else some (names_Is.body a0)
theorem names_Is.mono : ∀ a0 k, LeO (names_Is.f k a0) (names_Is.f (k + 1) a0) := by
  intro a0 k
  unfold names_Is.f
  repeat' first
    | exact LeO.refl _
    | refine LeO.ite ?_ ?_
    | refine LeO.bind (names_Keyword.mono a0 k) (fun _ => ?_)
theorem names_Is.bad {s : ByteArray} {i : Nat} (hi : i < s.size) (h : names_Is.ok i (bt s i).toNat = false) : names_Is.body s = false := by
  rw [Bool.eq_false_iff]
  intro hb
  have := List.all_eq_true.1 hb i (List.mem_range.2 hi)
  rw [h] at this
  cases this
theorem names_Is.good {s : ByteArray} (h : ∀ j, j < s.size → names_Is.ok j (bt s j).toNat = true) : names_Is.body s = true :=
  List.all_eq_true.2 fun j hj => h j (List.mem_range.1 hj)
theorem names_Is.below_iter {w : World} (m : Nat) (s : ByteArray) (p : Nat) : Below w.heap.size w ((w.drewN m).iter s p) := (pw_below_drewN (Below.refl _ w) m).alloc (Nat.le_refl _) _
set_option maxHeartbeats 2000000 in
set_option maxRecDepth 100000 in
theorem names_Is.calls (k : Nat) (a0 : ByteArray) (r : Bool) (w : World) (h : names_Is.f k a0 = some r) :
    Calls Try.prog 32 #[.string a0] w fun e w' => e = .returned (.bool r) ∧ Below w.heap.size w w' := by
  unfold names_Is.f at h
  have hlen := Go.Proofs.Ytfpmbognpacidaa.XBytes.tl_length a0
  by_cases h0 : a0.size = 0
  · rw [if_pos h0] at h
    have H := Option.some.inj h
    subst H
    have e0 : a0.toList = [] := List.length_eq_zero_iff.1 (hlen.trans h0)
    clear h hlen
    go_enter Try.func32, Try.ntmps32
    go_wp2
    go_ret
    exact ⟨rfl, Below.refl _ _⟩
  · rw [if_neg h0] at h
    have e0 : a0.toList.isEmpty = false := by
      cases hl : a0.toList with
      | nil => rw [hl] at hlen; exact absurd hlen.symm h0
      | cons => rfl
    have e1 : ¬ (a0.toList = []) := fun e => by rw [e] at e0; cases e0
    clear hlen
    by_cases h12 : 12 < a0.size
    · rw [if_pos h12] at h
      have H := Option.some.inj h
      subst H
      have h12' : decide ((12 : Int) < (a0.size : Int)) = true := decide_eq_true (by omega)
      clear h
      go_enter Try.func32, Try.ntmps32
      go_wp2
      go_ret
      exact ⟨rfl, Below.refl _ _⟩
    · rw [if_neg h12] at h
      have h12' : decide ((12 : Int) < (a0.size : Int)) = false := decide_eq_false (by omega)
      cases hk : names_Keyword.f k a0 with
      | none => rw [hk] at h; cases h
      | some b =>
        rw [hk, Option.bind_some] at h
        have HK := Aside0.mk hk
        clear hk
        cases b with
        | true =>
          have H := Option.some.inj h
          subst H
          clear h
          go_enter Try.func32, Try.ntmps32
          go_wp2_with (go_at_call 34; refine (names_Keyword.calls k a0 true _ HK.out).mono ?_; rintro e w' ⟨rfl, hd⟩)
          go_ret
          exact ⟨rfl, hd.below⟩
        | false =>
          have H := Option.some.inj h
          have HH := Aside0.mk H
          clear h H
          go_enter Try.func32, Try.ntmps32
          go_wp2_with (go_at_call 34; refine (names_Keyword.calls k a0 false _ HK.out).mono ?_; rintro e w' ⟨rfl, ⟨m, rfl⟩⟩)
          go_loopg [] a0.size (fun kq wr => ∃ pos : Nat, Aside0 (pos ≤ a0.size) ∧ Aside0 (a0.size - pos = kq) ∧ wr = (w.drewN m).iter a0 pos ∧ Aside0 (∀ j : Nat, j < pos → names_Is.ok j (bt a0 j).toNat = true))
          case atStart => exact ⟨0, ⟨Nat.zero_le _⟩, ⟨rfl⟩, rfl, ⟨fun j hj => absurd hj (Nat.not_lt_zero _)⟩⟩
          case round =>
            obtain ⟨pos, HP, HK, rfl, HG⟩ := hrel
            by_cases hp : pos < a0.size
            · have hbt : (bt a0 (pos : Int)).toNat = (a0[pos]'hp).toNat := by simp [bt, hp]
              have HBT := Aside0.mk hbt
              clear hbt
              by_cases hasc : (a0[pos]'hp).toNat < 128
              · have hnx : ∀ ty, (Instr.next (.pointer (some ⟨w.heap.size, 0, none⟩)) true ty).run Try.prog ((w.drewN m).iter a0 pos) = _ := fun ty => run_next_ascii (w.drewN m) a0 pos ty hp hasc
                generalize (a0[pos]'hp).toNat = c at hnx HBT hasc
                by_cases hL : 97 ≤ c ∧ c ≤ 122
                · obtain ⟨l1, l2⟩ := hL
                  have g1 : decide ((97 : Int) ≤ (c : Int)) = true := decide_eq_true (by omega)
                  have g2 : decide ((c : Int) ≤ 122) = true := decide_eq_true (by omega)
                  go_wp2
                  go_roundg (a0.size - (pos + 1))
                  case measure => have := HK.out; omega
                  case rel =>
                    refine ⟨pos + 1, ⟨by omega⟩, ⟨rfl⟩, rfl, ⟨fun j hj => ?_⟩⟩
                    by_cases e : j = pos
                    · rw [e, HBT.out]; unfold names_Is.ok; first | (simp; done) | (simp; omega)
                    · exact HG.out j (by omega)
                · skip
                  by_cases r0 : c ≤ 47
                  · by_cases hz : pos = 0
                    · have g1 : decide ((97 : Int) ≤ (c : Int)) = false := decide_eq_false (by omega)
                      have g2 : decide ((c : Int) ≤ 122) = true := decide_eq_true (by omega)
                      have g3 : decide ((48 : Int) ≤ (c : Int)) = false := decide_eq_false (by omega)
                      have g4 : decide ((c : Int) ≤ 57) = true := decide_eq_true (by omega)
                      have g5 : ((c : Int) == 95) = false := beq_eq_false_iff_ne.mpr (by omega)
                      have g6 : ((pos : Int) == 0) = true := beq_iff_eq.mpr (by omega)
                      have HZ := Aside0.mk hz
                      clear hz
                      go_wp2
                      go_ret
                      refine ⟨?_, names_Is.below_iter m a0 _⟩
                      rw [← HH.out, names_Is.bad hp (by have hz := HZ.out; rw [HBT.out]; unfold names_Is.ok; first | (simp; done) | (simp; omega))]
                      rfl
                    · have g1 : decide ((97 : Int) ≤ (c : Int)) = false := decide_eq_false (by omega)
                      have g2 : decide ((c : Int) ≤ 122) = true := decide_eq_true (by omega)
                      have g3 : decide ((48 : Int) ≤ (c : Int)) = false := decide_eq_false (by omega)
                      have g4 : decide ((c : Int) ≤ 57) = true := decide_eq_true (by omega)
                      have g5 : ((c : Int) == 95) = false := beq_eq_false_iff_ne.mpr (by omega)
                      have g6 : ((pos : Int) == 0) = false := beq_eq_false_iff_ne.mpr (by omega)
                      go_wp2
                      go_ret
                      refine ⟨?_, names_Is.below_iter m a0 _⟩
                      rw [← HH.out, names_Is.bad hp (by rw [HBT.out]; unfold names_Is.ok; first | (simp; done) | (simp; omega))]
                      rfl
                  · skip
                    by_cases r1 : c ≤ 57
                    · by_cases hz : pos = 0
                      · have g1 : decide ((97 : Int) ≤ (c : Int)) = false := decide_eq_false (by omega)
                        have g2 : decide ((c : Int) ≤ 122) = true := decide_eq_true (by omega)
                        have g3 : decide ((48 : Int) ≤ (c : Int)) = true := decide_eq_true (by omega)
                        have g4 : decide ((c : Int) ≤ 57) = true := decide_eq_true (by omega)
                        have g5 : ((c : Int) == 95) = false := beq_eq_false_iff_ne.mpr (by omega)
                        have g6 : ((pos : Int) == 0) = true := beq_iff_eq.mpr (by omega)
                        have HZ := Aside0.mk hz
                        clear hz
                        go_wp2
                        go_ret
                        refine ⟨?_, names_Is.below_iter m a0 _⟩
                        rw [← HH.out, names_Is.bad hp (by have hz := HZ.out; rw [HBT.out]; unfold names_Is.ok; first | (simp; done) | (simp; omega))]
                        rfl
                      · have g1 : decide ((97 : Int) ≤ (c : Int)) = false := decide_eq_false (by omega)
                        have g2 : decide ((c : Int) ≤ 122) = true := decide_eq_true (by omega)
                        have g3 : decide ((48 : Int) ≤ (c : Int)) = true := decide_eq_true (by omega)
                        have g4 : decide ((c : Int) ≤ 57) = true := decide_eq_true (by omega)
                        have g5 : ((c : Int) == 95) = false := beq_eq_false_iff_ne.mpr (by omega)
                        have g6 : ((pos : Int) == 0) = false := beq_eq_false_iff_ne.mpr (by omega)
                        go_wp2
                        go_roundg (a0.size - (pos + 1))
                        case measure => have := HK.out; omega
                        case rel =>
                          refine ⟨pos + 1, ⟨by omega⟩, ⟨rfl⟩, rfl, ⟨fun j hj => ?_⟩⟩
                          by_cases e : j = pos
                          · rw [e, HBT.out]; unfold names_Is.ok; first | (simp; done) | (simp; omega)
                          · exact HG.out j (by omega)
                    · skip
                      by_cases r2 : c ≤ 94
                      · by_cases hz : pos = 0
                        · have g1 : decide ((97 : Int) ≤ (c : Int)) = false := decide_eq_false (by omega)
                          have g2 : decide ((c : Int) ≤ 122) = true := decide_eq_true (by omega)
                          have g3 : decide ((48 : Int) ≤ (c : Int)) = true := decide_eq_true (by omega)
                          have g4 : decide ((c : Int) ≤ 57) = false := decide_eq_false (by omega)
                          have g5 : ((c : Int) == 95) = false := beq_eq_false_iff_ne.mpr (by omega)
                          have g6 : ((pos : Int) == 0) = true := beq_iff_eq.mpr (by omega)
                          have HZ := Aside0.mk hz
                          clear hz
                          go_wp2
                          go_ret
                          refine ⟨?_, names_Is.below_iter m a0 _⟩
                          rw [← HH.out, names_Is.bad hp (by have hz := HZ.out; rw [HBT.out]; unfold names_Is.ok; first | (simp; done) | (simp; omega))]
                          rfl
                        · have g1 : decide ((97 : Int) ≤ (c : Int)) = false := decide_eq_false (by omega)
                          have g2 : decide ((c : Int) ≤ 122) = true := decide_eq_true (by omega)
                          have g3 : decide ((48 : Int) ≤ (c : Int)) = true := decide_eq_true (by omega)
                          have g4 : decide ((c : Int) ≤ 57) = false := decide_eq_false (by omega)
                          have g5 : ((c : Int) == 95) = false := beq_eq_false_iff_ne.mpr (by omega)
                          have g6 : ((pos : Int) == 0) = false := beq_eq_false_iff_ne.mpr (by omega)
                          go_wp2
                          go_ret
                          refine ⟨?_, names_Is.below_iter m a0 _⟩
                          rw [← HH.out, names_Is.bad hp (by rw [HBT.out]; unfold names_Is.ok; first | (simp; done) | (simp; omega))]
                          rfl
                      · skip
                        by_cases r3 : c ≤ 95
                        · obtain rfl : c = 95 := by omega
                          by_cases hz : pos = 0
                          · have g1 : decide ((97 : Int) ≤ (95 : Int)) = false := decide_eq_false (by omega)
                            have g2 : decide ((95 : Int) ≤ 122) = true := decide_eq_true (by omega)
                            have g3 : decide ((48 : Int) ≤ (95 : Int)) = true := decide_eq_true (by omega)
                            have g4 : decide ((95 : Int) ≤ 57) = false := decide_eq_false (by omega)
                            have g5 : ((95 : Int) == 95) = true := beq_iff_eq.mpr (by omega)
                            have g6 : ((pos : Int) == 0) = true := beq_iff_eq.mpr (by omega)
                            have HZ := Aside0.mk hz
                            clear hz
                            go_wp2
                            go_ret
                            refine ⟨?_, names_Is.below_iter m a0 _⟩
                            rw [← HH.out, names_Is.bad hp (by have hz := HZ.out; rw [HBT.out]; unfold names_Is.ok; first | (simp; done) | (simp; omega))]
                            rfl
                          · have g1 : decide ((97 : Int) ≤ (95 : Int)) = false := decide_eq_false (by omega)
                            have g2 : decide ((95 : Int) ≤ 122) = true := decide_eq_true (by omega)
                            have g3 : decide ((48 : Int) ≤ (95 : Int)) = true := decide_eq_true (by omega)
                            have g4 : decide ((95 : Int) ≤ 57) = false := decide_eq_false (by omega)
                            have g5 : ((95 : Int) == 95) = true := beq_iff_eq.mpr (by omega)
                            have g6 : ((pos : Int) == 0) = false := beq_eq_false_iff_ne.mpr (by omega)
                            go_wp2
                            go_roundg (a0.size - (pos + 1))
                            case measure => have := HK.out; omega
                            case rel =>
                              refine ⟨pos + 1, ⟨by omega⟩, ⟨rfl⟩, rfl, ⟨fun j hj => ?_⟩⟩
                              by_cases e : j = pos
                              · rw [e, HBT.out]; unfold names_Is.ok; first | (simp; done) | (simp; omega)
                              · exact HG.out j (by omega)
                        · skip
                          by_cases r4 : c ≤ 96
                          · obtain rfl : c = 96 := by omega
                            by_cases hz : pos = 0
                            · have g1 : decide ((97 : Int) ≤ (96 : Int)) = false := decide_eq_false (by omega)
                              have g2 : decide ((96 : Int) ≤ 122) = true := decide_eq_true (by omega)
                              have g3 : decide ((48 : Int) ≤ (96 : Int)) = true := decide_eq_true (by omega)
                              have g4 : decide ((96 : Int) ≤ 57) = false := decide_eq_false (by omega)
                              have g5 : ((96 : Int) == 95) = false := beq_eq_false_iff_ne.mpr (by omega)
                              have g6 : ((pos : Int) == 0) = true := beq_iff_eq.mpr (by omega)
                              have HZ := Aside0.mk hz
                              clear hz
                              go_wp2
                              go_ret
                              refine ⟨?_, names_Is.below_iter m a0 _⟩
                              rw [← HH.out, names_Is.bad hp (by have hz := HZ.out; rw [HBT.out]; unfold names_Is.ok; first | (simp; done) | (simp; omega))]
                              rfl
                            · have g1 : decide ((97 : Int) ≤ (96 : Int)) = false := decide_eq_false (by omega)
                              have g2 : decide ((96 : Int) ≤ 122) = true := decide_eq_true (by omega)
                              have g3 : decide ((48 : Int) ≤ (96 : Int)) = true := decide_eq_true (by omega)
                              have g4 : decide ((96 : Int) ≤ 57) = false := decide_eq_false (by omega)
                              have g5 : ((96 : Int) == 95) = false := beq_eq_false_iff_ne.mpr (by omega)
                              have g6 : ((pos : Int) == 0) = false := beq_eq_false_iff_ne.mpr (by omega)
                              go_wp2
                              go_ret
                              refine ⟨?_, names_Is.below_iter m a0 _⟩
                              rw [← HH.out, names_Is.bad hp (by rw [HBT.out]; unfold names_Is.ok; first | (simp; done) | (simp; omega))]
                              rfl
                          · skip
                            by_cases hz : pos = 0
                            · have g1 : decide ((97 : Int) ≤ (c : Int)) = true := decide_eq_true (by omega)
                              have g2 : decide ((c : Int) ≤ 122) = false := decide_eq_false (by omega)
                              have g3 : decide ((48 : Int) ≤ (c : Int)) = true := decide_eq_true (by omega)
                              have g4 : decide ((c : Int) ≤ 57) = false := decide_eq_false (by omega)
                              have g5 : ((c : Int) == 95) = false := beq_eq_false_iff_ne.mpr (by omega)
                              have g6 : ((pos : Int) == 0) = true := beq_iff_eq.mpr (by omega)
                              have HZ := Aside0.mk hz
                              clear hz
                              go_wp2
                              go_ret
                              refine ⟨?_, names_Is.below_iter m a0 _⟩
                              rw [← HH.out, names_Is.bad hp (by have hz := HZ.out; rw [HBT.out]; unfold names_Is.ok; first | (simp; done) | (simp; omega))]
                              rfl
                            · have g1 : decide ((97 : Int) ≤ (c : Int)) = true := decide_eq_true (by omega)
                              have g2 : decide ((c : Int) ≤ 122) = false := decide_eq_false (by omega)
                              have g3 : decide ((48 : Int) ≤ (c : Int)) = true := decide_eq_true (by omega)
                              have g4 : decide ((c : Int) ≤ 57) = false := decide_eq_false (by omega)
                              have g5 : ((c : Int) == 95) = false := beq_eq_false_iff_ne.mpr (by omega)
                              have g6 : ((pos : Int) == 0) = false := beq_eq_false_iff_ne.mpr (by omega)
                              go_wp2
                              go_ret
                              refine ⟨?_, names_Is.below_iter m a0 _⟩
                              rw [← HH.out, names_Is.bad hp (by rw [HBT.out]; unfold names_Is.ok; first | (simp; done) | (simp; omega))]
                              rfl
              · have hnx : ∀ ty, (Instr.next (.pointer (some ⟨w.heap.size, 0, none⟩)) true ty).run Try.prog ((w.drewN m).iter a0 pos) = _ := fun ty => run_next_any (w.drewN m) a0 pos ty hp
                obtain ⟨hd1, -⟩ := decode_high a0 pos hp (by omega)
                generalize (Utf8.decode a0 pos).1 = c at hnx hd1
                generalize (Utf8.decode a0 pos).2 = c2 at hnx
                generalize (a0[pos]'hp).toNat = cb at HBT hasc
                by_cases hz : pos = 0
                · have g1 : decide ((97 : Int) ≤ (c : Int)) = true := decide_eq_true (by omega)
                  have g2 : decide ((c : Int) ≤ 122) = false := decide_eq_false (by omega)
                  have g3 : decide ((48 : Int) ≤ (c : Int)) = true := decide_eq_true (by omega)
                  have g4 : decide ((c : Int) ≤ 57) = false := decide_eq_false (by omega)
                  have g5 : ((c : Int) == 95) = false := beq_eq_false_iff_ne.mpr (by omega)
                  have g6 : ((pos : Int) == 0) = true := beq_iff_eq.mpr (by omega)
                  have HZ := Aside0.mk hz
                  clear hz
                  go_wp2
                  go_ret
                  refine ⟨?_, names_Is.below_iter m a0 _⟩
                  rw [← HH.out, names_Is.bad hp (by have hz := HZ.out; rw [HBT.out]; unfold names_Is.ok; first | (simp; done) | (simp; omega))]
                  rfl
                · have g1 : decide ((97 : Int) ≤ (c : Int)) = true := decide_eq_true (by omega)
                  have g2 : decide ((c : Int) ≤ 122) = false := decide_eq_false (by omega)
                  have g3 : decide ((48 : Int) ≤ (c : Int)) = true := decide_eq_true (by omega)
                  have g4 : decide ((c : Int) ≤ 57) = false := decide_eq_false (by omega)
                  have g5 : ((c : Int) == 95) = false := beq_eq_false_iff_ne.mpr (by omega)
                  have g6 : ((pos : Int) == 0) = false := beq_eq_false_iff_ne.mpr (by omega)
                  go_wp2
                  go_ret
                  refine ⟨?_, names_Is.below_iter m a0 _⟩
                  rw [← HH.out, names_Is.bad hp (by rw [HBT.out]; unfold names_Is.ok; first | (simp; done) | (simp; omega))]
                  rfl
            · have hnx : ∀ ty, (Instr.next (.pointer (some ⟨w.heap.size, 0, none⟩)) true ty).run Try.prog ((w.drewN m).iter a0 pos) = _ := fun ty => run_next_end (w.drewN m) a0 pos ty hp
              go_wp2
              go_ret
              refine ⟨?_, names_Is.below_iter m a0 _⟩
              rw [← HH.out, names_Is.good (fun j hj => HG.out j (by omega))]
              rfl


end Go.Proofs.Ytfpmbognpacidaa.XM
