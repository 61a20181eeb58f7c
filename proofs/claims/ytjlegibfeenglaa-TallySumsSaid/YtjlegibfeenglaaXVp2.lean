-- written by wip/xprint.py out of the translation
import Derived.Test.YtjlegibfeenglaaXVp0
import Derived.Test.YtjlegibfeenglaaXVp1
namespace Go.Proofs.Ytjlegibfeenglaa.XV
open Go.RowKit Go.Proofs.YtjlegibfeenglaaW.PrintWords Go.Proofs.YtjlegibfeenglaaW.PrintLast Go.Proofs.YtjlegibfeenglaaW.PrintMore
attribute [local go_sem] max2_int min2_int max_two min_two max_three min_three max_four min_four   -- for this text's walks alone
set_option linter.unusedVariables false
set_option linter.unusedSimpArgs false

/-! ### semblancelaw55_TallySums: function 5 -/
-- USES semblance/tally.New
-- USES semblance/semblancelaw55.awake
-- USES semblance/semblanceref55.Same
def semblancelaw55_TallySums.ask (a : S38) : Int × Int := (a.f1, a.f2)
def semblancelaw55_TallySums.f (l0 : List (S38)) : Option Bool := some true
theorem semblancelaw55_TallySums.same_self (xs : List Int) : ∀ (d n k : Nat), xs.length - n = d → n ≤ xs.length → d < k → xs.length ≤ 1000000 → semblanceref55_Same.l0 k xs xs n = some true := by
  intro d
  induction d with
  | zero =>
    intro n k hd hn hk hx
    obtain ⟨k, rfl⟩ : ∃ m, k = m + 1 := ⟨k - 1, by omega⟩
    have h1 : ¬ ((n : Int) < (xs.length : Int)) := by omega
    simp only [semblanceref55_Same.l0, h1, if_false]
  | succ d ih =>
    intro n k hd hn hk hx
    obtain ⟨k, rfl⟩ : ∃ m, k = m + 1 := ⟨k - 1, by omega⟩
    have h1 : (n : Int) < (xs.length : Int) := by omega
    have h2 : (0 : Int) ≤ (n : Int) := by omega
    have hw : wrap64 ((n : Int) + 1) = ((n + 1 : Nat) : Int) := by unfold wrap64; omega
    simp only [semblanceref55_Same.l0, h1, h2, if_true]
    rw [hw]
    exact ih (n + 1) k (by omega) (by omega) (by omega) hx
theorem semblancelaw55_TallySums.same (xs : List Int) (hx : xs.length ≤ 1000000) : semblanceref55_Same.f (xs.length + 1) xs xs = some true := by
  simp only [semblanceref55_Same.f, if_true]
  exact semblancelaw55_TallySums.same_self xs xs.length 0 _ (by omega) (by omega) (by omega) hx
open Go.Proofs.Ytjlegibfeenglaa.XTallyPlain in
/-- the loop's relation, but for its slots -/
structure semblancelaw55_TallySums.Rel (w wr : World) (p g p2 g2 i : Nat) (l : List (Int × Int)) : Prop where
  one : tally.Is wr p g ((l.take i).foldl Go.Proofs.Ytjlegibfeenglaa.XTallyPlain.step (List.replicate 8 0))
  two : tally.Is wr p2 g2 ((l.reverse.take i).foldl Go.Proofs.Ytjlegibfeenglaa.XTallyPlain.step (List.replicate 8 0))
  below : Below w.heap.size w wr
open Go.Proofs.Ytjlegibfeenglaa.XTallyPlain in
set_option maxHeartbeats 4000000 in
set_option maxRecDepth 100000 in
theorem semblancelaw55_TallySums.calls (A0 : Option Addr) (c0 : Nat) (l0 : List (S38)) (r : Bool) (w : World) (hr0 : Kd.C k38 w A0 l0.length l0) (hc0 : l0.length ≤ c0) (h : semblancelaw55_TallySums.f l0 = some r) :
    Calls Try.prog 5 #[.slice A0 l0.length c0] w fun e w' => e = .returned (.bool r) ∧ Below w.heap.size w w' := by
  have hlen : l0.length ≤ 9223372036854775807 := hr0.2.1
  obtain rfl : true = r := Option.some.inj h
  have HR0 := Aside0.mk hr0
  clear h hr0
  by_cases h100 : 100 < l0.length
  · have c1 : decide (100 < l0.length) = true := decide_eq_true h100
    have c2 : decide ((100 : Int) < (l0.length : Int)) = true := decide_eq_true (by omega)
    go_enter Try.func5, Try.ntmps5
    go_wp2_with (go_at_call 17; refine (semblancelaw55_awake.calls true _ rfl).mono ?_; rintro e w' ⟨rfl, hb⟩)
    go_ret
    exact ⟨rfl, hb⟩
  · have c1 : decide (100 < l0.length) = false := decide_eq_false h100
    have c2 : decide ((100 : Int) < (l0.length : Int)) = false := decide_eq_false (by omega)
    go_enter Try.func5, Try.ntmps5
    go_wp2_with fail
    refine (tally.newL 8 _ (by omega) (by omega)).mono ?_
    rintro e w1 ⟨p, g, rfl, hp, hg, his, hb⟩
    have HB1 := Aside0.mk hb
    have HP := Aside0.mk hp
    have HG := Aside0.mk hg
    have H1 := Aside0.mk his
    clear hb hp hg his
    go_wp2_with fail
    refine (tally.newL 8 _ (by omega) (by omega)).mono ?_
    rintro e w2 ⟨p2, g2, rfl, hp, hg, his, hb⟩
    have HB2 := Aside0.mk (below_then HB1.out HB1.out.size hb)
    have HG2 := Aside0.mk (Nat.le_trans HB1.out.size hg)
    have HT1 := Aside0.mk (H1.out.below hb)
    have HT2 := Aside0.mk his
    have HNE : Aside0 (g ≠ g2) := ⟨by have := H1.out.lt.2; omega⟩
    clear hb hp hg his H1 HB1 HP
    go_wp2_with fail
    go_loopg [7, 8] l0.length (fun kq v7 v8 wr' => ∃ (wr : World) (i : Nat), wr = wr' ∧ Aside0 (l0.length - i = kq) ∧ Aside0 (i ≤ l0.length) ∧ v8 = .int .i64 (i : Int) ∧ v7 = .int .u64 (((l0.map semblancelaw55_TallySums.ask).take i).foldl (add 8) 0) ∧ Aside0 (semblancelaw55_TallySums.Rel w wr p g p2 g2 i (l0.map semblancelaw55_TallySums.ask)))
    case atStart => exact ⟨_, 0, rfl, ⟨rfl⟩, ⟨Nat.zero_le _⟩, rfl, rfl, ⟨⟨HT1.out, HT2.out, HB2.out⟩⟩⟩
    case round =>
      clear HT1 HT2 HB2
      obtain ⟨wr, i, rfl, HK, HI, rfl, rfl, HREL⟩ := hrel
      by_cases hi : i < l0.length
      · have hlt : decide ((i : Int) < (l0.length : Int)) = true := decide_eq_true (by omega)
        have HB := Aside0.mk HREL.out.below
        have hC := Kd.C_below HR0.out HB.out
        obtain ⟨ad, e1, hx0, hx1, hx2⟩ := at_T38 HR0.out (i : Int) (by omega) (by omega)
        subst e1
        have hjn : ((l0.length : Int) - 1 - (i : Int)) = ((l0.length - 1 - i : Nat) : Int) := by omega
        obtain ⟨ad', e2, hy0, hy1, hy2⟩ := at_T38 HR0.out ((l0.length - 1 - i : Nat) : Int) (by omega) (by omega)
        injection e2 with e2
        subst e2
        rw [Int.toNat_natCast] at hx0 hx1 hx2 hy0 hy1 hy2
        have hl1 : (l0.map semblancelaw55_TallySums.ask).take (i + 1) = (l0.map semblancelaw55_TallySums.ask).take i ++ [semblancelaw55_TallySums.ask (rd_T38 l0 (i : Int))] := by
          rw [List.take_succ_eq_append_getElem (by simpa using hi)]
          simp [rd_T38, rdOf, hi]
        have hl2 : (l0.map semblancelaw55_TallySums.ask).reverse.take (i + 1) = (l0.map semblancelaw55_TallySums.ask).reverse.take i ++ [semblancelaw55_TallySums.ask (rd_T38 l0 ((l0.length - 1 - i : Nat) : Int))] := by
          have h3 : l0.length - 1 - i < l0.length := by omega
          rw [List.take_succ_eq_append_getElem (by simpa using hi), List.getElem_reverse]
          simp [rd_T38, rdOf, h3]
        have hs1 : (((l0.map semblancelaw55_TallySums.ask).take i).foldl Go.Proofs.Ytjlegibfeenglaa.XTallyPlain.step (List.replicate 8 0)).length = 8 := by rw [steps_length]; rfl
        have hs2 : (((l0.map semblancelaw55_TallySums.ask).reverse.take i).foldl Go.Proofs.Ytjlegibfeenglaa.XTallyPlain.step (List.replicate 8 0)).length = 8 := by rw [steps_length]; rfl
        have HL1 := Aside0.mk hl1
        have HL2 := Aside0.mk hl2
        have HS1 := Aside0.mk hs1
        have HS2 := Aside0.mk hs2
        have H1 := Aside0.mk HREL.out.one
        have H2 := Aside0.mk HREL.out.two
        generalize rd_T38 l0 (i : Int) = a at *
        generalize rd_T38 l0 ((l0.length - 1 - i : Nat) : Int) = b at *
        generalize hfx : ((l0.map semblancelaw55_TallySums.ask).take i).foldl Go.Proofs.Ytjlegibfeenglaa.XTallyPlain.step (List.replicate 8 0) = xs at *
        have HFX := Aside0.mk hfx
        clear hfx
        generalize hfy : ((l0.map semblancelaw55_TallySums.ask).reverse.take i).foldl Go.Proofs.Ytjlegibfeenglaa.XTallyPlain.step (List.replicate 8 0) = ys at *
        have HFY := Aside0.mk hfy
        clear hfy
        obtain ⟨a0, a1, a2⟩ := a
        obtain ⟨b0, b1, b2⟩ := b
        dsimp only at hx0 hx1 hx2 hy0 hy1 hy2
        have HX1 := Aside0.mk hx1
        have HX2 := Aside0.mk hx2
        have HY0 := Aside0.mk hy0
        have HY1 := Aside0.mk hy1
        have HY2 := Aside0.mk hy2
        have hx1 := pw_cell_below HB.out HX1.out
        have hx2 := pw_cell_below HB.out HX2.out
        have hi1 : (i : Int) < (l0.length : Int) := by omega
        have hi0 : (0 : Int) ≤ (i : Int) := Int.natCast_nonneg _
        have hj1 : ((l0.length - 1 - i : Nat) : Int) < (l0.length : Int) := by omega
        generalize hj : l0.length - 1 - i = j at *
        have HJ := Aside0.mk hj
        generalize hsm : ((l0.map semblancelaw55_TallySums.ask).take i).foldl (add 8) 0 = sm
        have HSM := Aside0.mk hsm
        have HJN := Aside0.mk hjn
        clear hx0 hy0 hy1 hy2 hl1 hl2 hs1 hs2 hC HREL hj hsm hjn
        by_cases ca : 0 ≤ a1 ∧ a1 < ((8 : Nat) : Int)
        · obtain ⟨ia, rfl⟩ : ∃ ia : Nat, a1 = ia := ⟨a1.toNat, by omega⟩
          have hia : ia < 8 := by omega
          clear ca
          go_wp2_with fail
          go_region_held3 (fun w' => w'.cell? ⟨(ad.add (i * 3)).block, (ad.add (i * 3)).off + 1, none⟩ = some (.int .i64 (ia : Int)) ∧ w'.cell? ⟨(ad.add (i * 3)).block, (ad.add (i * 3)).off + 2, none⟩ = some (.int .u64 a2)) (first | go_keep | (go_split_ands; exact ⟨pw_cell_below hb.out HX1.out, pw_cell_below hb.out HX2.out⟩)) ((go_at_call 20; refine (tally.addIn ia a2 p g xs _ (by exact H1.out.move rfl rfl) (by rw [HS1.out]; omega)).mono ?_; rintro e w3 ⟨rfl, hw3⟩; have hb : Aside0 (Below w.heap.size w w3) := ⟨hw3 ▸ (below_drew HB.out).setCell (p := ⟨g, ia, none⟩) HG.out _⟩; have H13 : Aside0 (tally.Is w3 p g (xs.set ia (sum (rd xs (ia : Int)) a2))) := ⟨hw3 ▸ tally.Is.set (tally.Is.move (W1 := wr.drew) H1.out rfl rfl) ia _⟩; have H23 : Aside0 (tally.Is w3 p2 g2 ys) := ⟨hw3 ▸ H2.out.move (Below.heap_setCell _ ⟨g, ia, none⟩ _ p2 (tally.apart H2.out H1.out)) (Below.heap_setCell _ ⟨g, ia, none⟩ _ g2 (Ne.symm HNE.out))⟩; clear hw3))
          clear hx1 hx2
          by_cases cb : 0 ≤ b1 ∧ b1 < ((8 : Nat) : Int)
          · obtain ⟨ib, rfl⟩ : ∃ ib : Nat, b1 = ib := ⟨b1.toNat, by omega⟩
            have hib : ib < 8 := by omega
            clear cb
            have hz2 := pw_cell_below hb.out HX2.out
            have hv0 := pw_cell_below hb.out HY0.out
            have hv1 := pw_cell_below hb.out HY1.out
            have hv2 := pw_cell_below hb.out HY2.out
            have hjn := HJN.out
            have hj0 : (0 : Int) ≤ (j : Int) := Int.natCast_nonneg _
            go_wp2_with fail
            clear hjn hv0 hv1 hv2 hz2
            have H1a : Aside0 (tally.Is (w3.alloc (.cells #[.int .i64 b0, .int .i64 (ib : Int), .int .u64 b2] 38)) p g (xs.set ia (sum (rd xs (ia : Int)) a2))) := ⟨H13.out.alloc _⟩
            have H2a : Aside0 (tally.Is (w3.alloc (.cells #[.int .i64 b0, .int .i64 (ib : Int), .int .u64 b2] 38)) p2 g2 ys) := ⟨H23.out.alloc _⟩
            have HBa : Aside0 (Below w.heap.size w (w3.alloc (.cells #[.int .i64 b0, .int .i64 (ib : Int), .int .u64 b2] 38))) := ⟨below_alloc hb.out _⟩
            refine (tally.addIn ib b2 p2 g2 ys _ H2a.out (by rw [HS2.out]; omega)).mono ?_
            rintro e w4 ⟨rfl, hw4⟩
            have H24 : Aside0 (tally.Is w4 p2 g2 (ys.set ib (sum (rd ys (ib : Int)) b2))) := ⟨hw4 ▸ H2a.out.set ib _⟩
            have H14 : Aside0 (tally.Is w4 p g (xs.set ia (sum (rd xs (ia : Int)) a2))) := ⟨hw4 ▸ H1a.out.move (Below.heap_setCell _ ⟨g2, ib, none⟩ _ p (tally.apart H1a.out H2a.out)) (Below.heap_setCell _ ⟨g2, ib, none⟩ _ g HNE.out)⟩
            have HB4 : Aside0 (Below w.heap.size w w4) := ⟨hw4 ▸ HBa.out.setCell (p := ⟨g2, ib, none⟩) HG2.out _⟩
            clear hw4 hb H13 H23 H1a H2a HBa
            go_wp2_with fail
            go_roundg (l0.length - (i + 1))
            case measure => have := HK.out; omega
            case rel =>
              refine ⟨_, i + 1, rfl, ⟨rfl⟩, ⟨hi⟩, by go_num, ?_, ⟨⟨?_, ?_, HB4.out⟩⟩⟩
              · rw [HL1.out, List.foldl_append, HSM.out]
                show _ = Value.int .u64 (add 8 sm _)
                unfold add semblancelaw55_TallySums.ask
                dsimp only
                rw [if_pos (show (0 : Int) ≤ (ia : Int) ∧ (ia : Int) < ((8 : Nat) : Int) from ⟨by omega, by omega⟩)]; rfl
              · rw [HL1.out, List.foldl_append, HFX.out]
                show tally.Is w4 p g (Go.Proofs.Ytjlegibfeenglaa.XTallyPlain.step xs _)
                unfold Go.Proofs.Ytjlegibfeenglaa.XTallyPlain.step semblancelaw55_TallySums.ask
                dsimp only
                rw [HS1.out]
                rw [if_pos (show (0 : Int) ≤ (ia : Int) ∧ (ia : Int) < ((8 : Nat) : Int) from ⟨by omega, by omega⟩)]; exact H14.out
              · rw [HL2.out, List.foldl_append, HFY.out]
                show tally.Is w4 p2 g2 (Go.Proofs.Ytjlegibfeenglaa.XTallyPlain.step ys _)
                unfold Go.Proofs.Ytjlegibfeenglaa.XTallyPlain.step semblancelaw55_TallySums.ask
                dsimp only
                rw [HS2.out]
                rw [if_pos (show (0 : Int) ≤ (ib : Int) ∧ (ib : Int) < ((8 : Nat) : Int) from ⟨by omega, by omega⟩)]; exact H24.out
          · have HCB := Aside0.mk cb
            clear cb
            have hz2 := pw_cell_below hb.out HX2.out
            have hv0 := pw_cell_below hb.out HY0.out
            have hv1 := pw_cell_below hb.out HY1.out
            have hv2 := pw_cell_below hb.out HY2.out
            have hjn := HJN.out
            have hj0 : (0 : Int) ≤ (j : Int) := Int.natCast_nonneg _
            go_wp2_with fail
            clear hjn hv0 hv1 hv2 hz2
            have H1a : Aside0 (tally.Is (w3.alloc (.cells #[.int .i64 b0, .int .i64 b1, .int .u64 b2] 38)) p g (xs.set ia (sum (rd xs (ia : Int)) a2))) := ⟨H13.out.alloc _⟩
            have H2a : Aside0 (tally.Is (w3.alloc (.cells #[.int .i64 b0, .int .i64 b1, .int .u64 b2] 38)) p2 g2 ys) := ⟨H23.out.alloc _⟩
            have HBa : Aside0 (Below w.heap.size w (w3.alloc (.cells #[.int .i64 b0, .int .i64 b1, .int .u64 b2] 38))) := ⟨below_alloc hb.out _⟩
            refine (tally.addOut b1 b2 p2 g2 ys _ H2a.out (by rw [HS2.out]; exact HCB.out)).mono ?_
            rintro e w4 ⟨rfl, hw4⟩
            have H24 : Aside0 (tally.Is w4 p2 g2 ys) := ⟨hw4 ▸ H2a.out⟩
            have H14 : Aside0 (tally.Is w4 p g (xs.set ia (sum (rd xs (ia : Int)) a2))) := ⟨hw4 ▸ H1a.out⟩
            have HB4 : Aside0 (Below w.heap.size w w4) := ⟨hw4 ▸ HBa.out⟩
            clear hw4 hb H13 H23 H1a H2a HBa
            go_wp2_with fail
            go_roundg (l0.length - (i + 1))
            case measure => have := HK.out; omega
            case rel =>
              refine ⟨_, i + 1, rfl, ⟨rfl⟩, ⟨hi⟩, by go_num, ?_, ⟨⟨?_, ?_, HB4.out⟩⟩⟩
              · rw [HL1.out, List.foldl_append, HSM.out]
                show _ = Value.int .u64 (add 8 sm _)
                unfold add semblancelaw55_TallySums.ask
                dsimp only
                rw [if_pos (show (0 : Int) ≤ (ia : Int) ∧ (ia : Int) < ((8 : Nat) : Int) from ⟨by omega, by omega⟩)]; rfl
              · rw [HL1.out, List.foldl_append, HFX.out]
                show tally.Is w4 p g (Go.Proofs.Ytjlegibfeenglaa.XTallyPlain.step xs _)
                unfold Go.Proofs.Ytjlegibfeenglaa.XTallyPlain.step semblancelaw55_TallySums.ask
                dsimp only
                rw [HS1.out]
                rw [if_pos (show (0 : Int) ≤ (ia : Int) ∧ (ia : Int) < ((8 : Nat) : Int) from ⟨by omega, by omega⟩)]; exact H14.out
              · rw [HL2.out, List.foldl_append, HFY.out]
                show tally.Is w4 p2 g2 (Go.Proofs.Ytjlegibfeenglaa.XTallyPlain.step ys _)
                unfold Go.Proofs.Ytjlegibfeenglaa.XTallyPlain.step semblancelaw55_TallySums.ask
                dsimp only
                rw [HS2.out]
                rw [if_neg HCB.out]; exact H24.out
        · have HCA := Aside0.mk ca
          clear ca
          go_wp2_with fail
          go_region_held3 (fun w' => w'.cell? ⟨(ad.add (i * 3)).block, (ad.add (i * 3)).off + 1, none⟩ = some (.int .i64 a1) ∧ w'.cell? ⟨(ad.add (i * 3)).block, (ad.add (i * 3)).off + 2, none⟩ = some (.int .u64 a2)) (first | go_keep | (go_split_ands; exact ⟨pw_cell_below hb.out HX1.out, pw_cell_below hb.out HX2.out⟩)) ((go_at_call 20; refine (tally.addOut a1 a2 p g xs _ (by exact H1.out.move rfl rfl) (by rw [HS1.out]; exact HCA.out)).mono ?_; rintro e w3 ⟨rfl, hw3⟩; have hb : Aside0 (Below w.heap.size w w3) := ⟨hw3 ▸ below_drew HB.out⟩; have H13 : Aside0 (tally.Is w3 p g xs) := ⟨hw3 ▸ tally.Is.move (W1 := wr.drew) H1.out rfl rfl⟩; have H23 : Aside0 (tally.Is w3 p2 g2 ys) := ⟨hw3 ▸ tally.Is.move (W1 := wr.drew) H2.out rfl rfl⟩; clear hw3))
          clear hx1 hx2
          by_cases cb : 0 ≤ b1 ∧ b1 < ((8 : Nat) : Int)
          · obtain ⟨ib, rfl⟩ : ∃ ib : Nat, b1 = ib := ⟨b1.toNat, by omega⟩
            have hib : ib < 8 := by omega
            clear cb
            have hz2 := pw_cell_below hb.out HX2.out
            have hv0 := pw_cell_below hb.out HY0.out
            have hv1 := pw_cell_below hb.out HY1.out
            have hv2 := pw_cell_below hb.out HY2.out
            have hjn := HJN.out
            have hj0 : (0 : Int) ≤ (j : Int) := Int.natCast_nonneg _
            go_wp2_with fail
            clear hjn hv0 hv1 hv2 hz2
            have H1a : Aside0 (tally.Is (w3.alloc (.cells #[.int .i64 b0, .int .i64 (ib : Int), .int .u64 b2] 38)) p g xs) := ⟨H13.out.alloc _⟩
            have H2a : Aside0 (tally.Is (w3.alloc (.cells #[.int .i64 b0, .int .i64 (ib : Int), .int .u64 b2] 38)) p2 g2 ys) := ⟨H23.out.alloc _⟩
            have HBa : Aside0 (Below w.heap.size w (w3.alloc (.cells #[.int .i64 b0, .int .i64 (ib : Int), .int .u64 b2] 38))) := ⟨below_alloc hb.out _⟩
            refine (tally.addIn ib b2 p2 g2 ys _ H2a.out (by rw [HS2.out]; omega)).mono ?_
            rintro e w4 ⟨rfl, hw4⟩
            have H24 : Aside0 (tally.Is w4 p2 g2 (ys.set ib (sum (rd ys (ib : Int)) b2))) := ⟨hw4 ▸ H2a.out.set ib _⟩
            have H14 : Aside0 (tally.Is w4 p g xs) := ⟨hw4 ▸ H1a.out.move (Below.heap_setCell _ ⟨g2, ib, none⟩ _ p (tally.apart H1a.out H2a.out)) (Below.heap_setCell _ ⟨g2, ib, none⟩ _ g HNE.out)⟩
            have HB4 : Aside0 (Below w.heap.size w w4) := ⟨hw4 ▸ HBa.out.setCell (p := ⟨g2, ib, none⟩) HG2.out _⟩
            clear hw4 hb H13 H23 H1a H2a HBa
            go_wp2_with fail
            go_roundg (l0.length - (i + 1))
            case measure => have := HK.out; omega
            case rel =>
              refine ⟨_, i + 1, rfl, ⟨rfl⟩, ⟨hi⟩, by go_num, ?_, ⟨⟨?_, ?_, HB4.out⟩⟩⟩
              · rw [HL1.out, List.foldl_append, HSM.out]
                show _ = Value.int .u64 (add 8 sm _)
                unfold add semblancelaw55_TallySums.ask
                dsimp only
                rw [if_neg HCA.out]
              · rw [HL1.out, List.foldl_append, HFX.out]
                show tally.Is w4 p g (Go.Proofs.Ytjlegibfeenglaa.XTallyPlain.step xs _)
                unfold Go.Proofs.Ytjlegibfeenglaa.XTallyPlain.step semblancelaw55_TallySums.ask
                dsimp only
                rw [HS1.out]
                rw [if_neg HCA.out]; exact H14.out
              · rw [HL2.out, List.foldl_append, HFY.out]
                show tally.Is w4 p2 g2 (Go.Proofs.Ytjlegibfeenglaa.XTallyPlain.step ys _)
                unfold Go.Proofs.Ytjlegibfeenglaa.XTallyPlain.step semblancelaw55_TallySums.ask
                dsimp only
                rw [HS2.out]
                rw [if_pos (show (0 : Int) ≤ (ib : Int) ∧ (ib : Int) < ((8 : Nat) : Int) from ⟨by omega, by omega⟩)]; exact H24.out
          · have HCB := Aside0.mk cb
            clear cb
            have hz2 := pw_cell_below hb.out HX2.out
            have hv0 := pw_cell_below hb.out HY0.out
            have hv1 := pw_cell_below hb.out HY1.out
            have hv2 := pw_cell_below hb.out HY2.out
            have hjn := HJN.out
            have hj0 : (0 : Int) ≤ (j : Int) := Int.natCast_nonneg _
            go_wp2_with fail
            clear hjn hv0 hv1 hv2 hz2
            have H1a : Aside0 (tally.Is (w3.alloc (.cells #[.int .i64 b0, .int .i64 b1, .int .u64 b2] 38)) p g xs) := ⟨H13.out.alloc _⟩
            have H2a : Aside0 (tally.Is (w3.alloc (.cells #[.int .i64 b0, .int .i64 b1, .int .u64 b2] 38)) p2 g2 ys) := ⟨H23.out.alloc _⟩
            have HBa : Aside0 (Below w.heap.size w (w3.alloc (.cells #[.int .i64 b0, .int .i64 b1, .int .u64 b2] 38))) := ⟨below_alloc hb.out _⟩
            refine (tally.addOut b1 b2 p2 g2 ys _ H2a.out (by rw [HS2.out]; exact HCB.out)).mono ?_
            rintro e w4 ⟨rfl, hw4⟩
            have H24 : Aside0 (tally.Is w4 p2 g2 ys) := ⟨hw4 ▸ H2a.out⟩
            have H14 : Aside0 (tally.Is w4 p g xs) := ⟨hw4 ▸ H1a.out⟩
            have HB4 : Aside0 (Below w.heap.size w w4) := ⟨hw4 ▸ HBa.out⟩
            clear hw4 hb H13 H23 H1a H2a HBa
            go_wp2_with fail
            go_roundg (l0.length - (i + 1))
            case measure => have := HK.out; omega
            case rel =>
              refine ⟨_, i + 1, rfl, ⟨rfl⟩, ⟨hi⟩, by go_num, ?_, ⟨⟨?_, ?_, HB4.out⟩⟩⟩
              · rw [HL1.out, List.foldl_append, HSM.out]
                show _ = Value.int .u64 (add 8 sm _)
                unfold add semblancelaw55_TallySums.ask
                dsimp only
                rw [if_neg HCA.out]
              · rw [HL1.out, List.foldl_append, HFX.out]
                show tally.Is w4 p g (Go.Proofs.Ytjlegibfeenglaa.XTallyPlain.step xs _)
                unfold Go.Proofs.Ytjlegibfeenglaa.XTallyPlain.step semblancelaw55_TallySums.ask
                dsimp only
                rw [HS1.out]
                rw [if_neg HCA.out]; exact H14.out
              · rw [HL2.out, List.foldl_append, HFY.out]
                show tally.Is w4 p2 g2 (Go.Proofs.Ytjlegibfeenglaa.XTallyPlain.step ys _)
                unfold Go.Proofs.Ytjlegibfeenglaa.XTallyPlain.step semblancelaw55_TallySums.ask
                dsimp only
                rw [HS2.out]
                rw [if_neg HCB.out]; exact H24.out
      · have hlt : decide ((i : Int) < (l0.length : Int)) = false := decide_eq_false (by omega)
        have hil : i = l0.length := by have := HI.out; omega
        have H1 := Aside0.mk HREL.out.one
        have H2 := Aside0.mk HREL.out.two
        have HB := Aside0.mk HREL.out.below
        rw [List.take_of_length_le (by simp; omega)] at H1 H2
        rw [steps_reverse] at H2
        have hts : Aside0 (((l0.map semblancelaw55_TallySums.ask).take i).foldl (add 8) 0 = total ((l0.map semblancelaw55_TallySums.ask).foldl Go.Proofs.Ytjlegibfeenglaa.XTallyPlain.step (List.replicate 8 0))) := by
          refine ⟨?_⟩
          rw [List.take_of_length_le (by simp; omega), total_steps _ _ 0 (by decide)]
          rfl
        have hxl : ((l0.map semblancelaw55_TallySums.ask).foldl Go.Proofs.Ytjlegibfeenglaa.XTallyPlain.step (List.replicate 8 0)).length = 8 := by rw [steps_length]; rfl
        have HXL := Aside0.mk hxl
        rw [hts.out]
        clear hts HREL hil hxl
        generalize (l0.map semblancelaw55_TallySums.ask).foldl Go.Proofs.Ytjlegibfeenglaa.XTallyPlain.step (List.replicate 8 0) = xs at *
        go_wp2_with fail
        refine (tally.totalL p g xs _ H1.out).mono ?_
        rintro e w3 ⟨rfl, hb3⟩
        have H13 := Aside0.mk (H1.out.below hb3)
        have H23 := Aside0.mk (H2.out.below hb3)
        have HB3 := Aside0.mk (below_then HB.out HB.out.size hb3)
        clear hb3 H1 H2 HB
        have heq : (total xs == total xs) = true := beq_self_eq_true _
        generalize total xs = tx at *
        go_wp2_with fail
        refine (tally.allL p g xs _ H13.out).mono ?_
        rintro e w4 ⟨va, rfl, hra, hb4⟩
        obtain ⟨Aa, ca, rfl, hla, hCa⟩ := Kd.R_reads hra
        have H24 := Aside0.mk (H23.out.below hb4)
        have HB4 := Aside0.mk (below_then HB3.out HB3.out.size hb4)
        have HCa := Aside0.mk hCa
        clear hra hCa hb4 HB3 H13 H23
        go_wp2_with fail
        refine (tally.allL p2 g2 xs _ H24.out).mono ?_
        rintro e w5 ⟨vb, rfl, hrb, hb5⟩
        obtain ⟨Ab, cb, rfl, hlb, hCb⟩ := Kd.R_reads hrb
        have HB5 := Aside0.mk (below_then HB4.out HB4.out.size hb5)
        have HCb := Aside0.mk hCb
        have HCa5 := Aside0.mk (Kd.C_below HCa.out hb5)
        clear hrb hCb hb5 HB4 HCa
        go_wp2_with fail
        refine (semblanceref55_Same.calls _ Aa ca xs Ab cb xs true _ HCa5.out hla HCb.out hlb (semblancelaw55_TallySums.same xs (by rw [HXL.out]; omega))).mono ?_
        rintro e w6 ⟨rfl, ⟨m, rfl⟩⟩
        go_wp2_with (go_at_call 17; refine (semblancelaw55_awake.calls true _ rfl).mono ?_; rintro e w' ⟨rfl, hb⟩)
        go_ret
        exact ⟨rfl, below_then (pw_below_drewN HB5.out m) (pw_below_drewN HB5.out m).size hb⟩


/-! ### semblanceref55_Total: function 27 -/
def semblanceref55_Total.l0 : Nat → List Int → Int → Int → Option (Int)
  | 0, _, _, _ => none
  | k + 1, x0, x3, x4 => if x4 < (x0.length : Int) then (if 0 ≤ x4 then (semblanceref55_Total.l0 k x0 (IntKind.u64.wrap (x3 + (rd x0 x4))) (wrap64 (x4 + 1))) else (none)) else (some x3)
def semblanceref55_Total.f (k : Nat) (l0 : List Int) : Option (Int) := semblanceref55_Total.l0 k l0 0 0
theorem semblanceref55_Total.mono_l : ∀ k, (∀ y0 y1 y2, LeO (semblanceref55_Total.l0 k y0 y1 y2) (semblanceref55_Total.l0 (k + 1) y0 y1 y2))
  | 0 => fun _ _ _ r h => by simp [semblanceref55_Total.l0] at h
  | k + 1 => by
    have ih0 := semblanceref55_Total.mono_l k
    · intro y0 y1 y2
      unfold semblanceref55_Total.l0
      repeat' first
      | (with_reducible exact ih0 _ _ _)
      | (with_reducible exact LeO.refl _)
      | (with_reducible exact LeO.none _)
      | (with_reducible refine LeO.ite ?_ ?_)
      | (with_reducible refine LeO.bind ?_ (fun _ => ?_))
      | exact ih0 _ _ _
      | exact LeO.none _
      | refine LeO.ite ?_ ?_
      | refine LeO.bind ?_ (fun _ => ?_)
theorem semblanceref55_Total.mono : ∀ a0 k, LeO (semblanceref55_Total.f k a0) (semblanceref55_Total.f (k + 1) a0) := by
  intro a0 k
  have ih0 := semblanceref55_Total.mono_l k
  unfold semblanceref55_Total.f
  repeat' first
      | (with_reducible exact ih0 _ _ _)
      | (with_reducible exact LeO.refl _)
      | (with_reducible exact LeO.none _)
      | (with_reducible refine LeO.ite ?_ ?_)
      | (with_reducible refine LeO.bind ?_ (fun _ => ?_))
      | exact ih0 _ _ _
      | exact LeO.none _
      | refine LeO.ite ?_ ?_
      | refine LeO.bind ?_ (fun _ => ?_)
set_option maxHeartbeats 8000000 in
set_option maxRecDepth 100000 in
theorem semblanceref55_Total.calls (k : Nat) (A0 : Option Addr) (c0 : Nat) (l0 : List Int) (r : Int) (w : World) (hr0 : Kd.C (Kd.int .u64) w A0 l0.length l0) (hc0 : l0.length ≤ c0) (h : semblanceref55_Total.f k l0 = some r) :
    Calls Try.prog 27 #[.slice A0 l0.length c0] w fun e w' => e = .returned (.int .u64 r) ∧ Drawn0 w w' := by
  have HR0 := Aside0.mk hr0
  have HC0 := Aside0.mk hc0
  clear hr0 hc0
  have H : (semblanceref55_Total.l0 k l0 0 0) = some r := h
  clear h
  have H' := Aside0.mk H
  clear H
  go_enter Try.func27, Try.ntmps27
  go_wp2
  go_loopg [3, 4] k (fun kq v3 v4 w' => ∃ (x3_1 : Int) (x4_1 : Int), v3 = .int .u64 x3_1 ∧ v4 = .int .i64 x4_1 ∧ Aside0 (semblanceref55_Total.l0 kq l0 x3_1 x4_1 = some r) ∧ Aside0 (kq ≤ k) ∧ Drawn0 w w')
  case atStart => exact ⟨(0), (0), (by first | rfl | (simp; done) | (simp [*]; done)), (by first | rfl | (simp; done) | (simp [*]; done)), H', ⟨Nat.le_refl _⟩, by repeat (first | exact Drawn0.refl _ | apply Drawn0.step)⟩
  case round =>
    clear H'
    obtain ⟨x3_1, x4_1, rfl, rfl, HA, HK1, ⟨m1, rfl⟩⟩ := hrel
    cases gk with
    | zero => exact absurd HA.out (by simp [semblanceref55_Total.l0])
    | succ k1 =>
      have H := HA.out
      clear HA
      simp only [semblanceref55_Total.l0] at H
      by_cases c2 : x4_1 < (l0.length : Int)
      · rw [if_pos c2] at H
        have c2b0 : decide (x4_1 < (l0.length : Int)) = true := decide_eq_true c2
        clear c2
        by_cases c3 : 0 ≤ x4_1
        · rw [if_pos c3] at H
          have c3b0 : decide (0 ≤ x4_1) = true := decide_eq_true c3
          clear c3
          have H' := Aside0.mk H
          clear H
          have p103 : 0 ≤ (x4_1 : Int) := of_decide_eq_true (by first | (with_reducible assumption) | assumption)
          have q103 : x4_1 < (l0.length : Int) := of_decide_eq_true (by first | (with_reducible assumption) | assumption)
          obtain ⟨ad103, e103, hx103_0⟩ := Kd.at_int HR0.out x4_1 p103 q103
          cases e103
          replace p103 := eq_true p103
          replace q103 := eq_true q103
          go_wp2
          go_roundg k1
          case measure => have := HK1.out; omega
          case rel => exact ⟨(IntKind.u64.wrap (x3_1 + (rd l0 x4_1))), (wrap64 (x4_1 + 1)), (by first | rfl | (simp; done) | (simp [*]; done)), (by first | rfl | (simp; done) | (simp [*]; done)), H', ⟨by have := HK1.out; omega⟩, by repeat (first | exact Drawn0.refl _ | apply Drawn0.step)⟩
        · rw [if_neg c3] at H
          exact absurd H (by simp)
      · rw [if_neg c2] at H
        have c2b0 : decide (x4_1 < (l0.length : Int)) = false := decide_eq_false c2
        clear c2
        obtain rfl := Option.some.inj H
        go_wp2
        go_ret
        exact ⟨by first | rfl | (simp; done) | (simp [*]; done), by repeat (first | exact Drawn0.refl _ | apply Drawn0.step)⟩

end Go.Proofs.Ytjlegibfeenglaa.XV
