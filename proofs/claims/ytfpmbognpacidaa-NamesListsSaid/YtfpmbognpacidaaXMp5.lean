-- written by wip/xprint.py out of the translation
import Derived.Test.YtfpmbognpacidaaXMp0
namespace Go.Proofs.Ytfpmbognpacidaa.XM
open Go.RowKit Go.Proofs.YtfpmbognpacidaaW.PrintWords Go.Proofs.YtfpmbognpacidaaW.PrintLast Go.Proofs.YtfpmbognpacidaaW.PrintMore
attribute [local go_sem] max2_int min2_int max_two min_two max_three min_three max_four min_four   -- for this text's walks alone
set_option linter.unusedVariables false
set_option linter.unusedSimpArgs false

/-! ### names_Twins: function 41 -/
def names_Twins.f (l0 : List ByteArray) : Option (List Int) := if l0.length ≤ 1000000 then (if (l0.all fun s => decide (s.size ≤ 1000000)) = true then some (Go.Proofs.Ytfpmbognpacidaa.XNamesPlain.twinsF l0) else none) else none
theorem names_Twins.law : Go.Maps.Keyed Try.prog 9 := Go.Maps.string_keyed Try.underlying9
theorem names_Twins.zeroE (w : World) : (zeroValue 3).run Try.prog w = .ok (.int .i64 0) w := by kernel_rfl
theorem names_Twins.info8 : (Try.prog.info? 3).map (fun i => (i.zero, i.size, i.bytes)) = some (some (.int .i64 0), 1, 8) := by kernel_rfl
/-- the loop's relation but for its slots -/
def names_Twins.Rel (W : World) (g i : Nat) (v : Value) (l : List (List UInt8)) : Prop :=
  (∃ D : DataW Unit, W.ownsMap Try.prog 9 (plainElem Try.prog 3) g i D ∧ Go.Proofs.Ytfpmbognpacidaa.XNamesPlain.Counts D l i) ∧ Kd.R (Kd.int .i64) 3 W g (fun k => k ≠ g) v (Go.Proofs.Ytfpmbognpacidaa.XNamesPlain.twn l i)
open Go.Proofs.Ytfpmbognpacidaa.XNamesPlain in
set_option maxRecDepth 100000 in
set_option maxHeartbeats 2000000 in
theorem names_Twins.calls (A0 : Option Addr) (c0 : Nat) (l0 : List ByteArray) (r : List Int) (w : World) (hr0 : Kd.C Kd.string w A0 l0.length l0) (hc0 : l0.length ≤ c0) (h : names_Twins.f l0 = some r) :
    Calls Try.prog 41 #[.slice A0 l0.length c0] w fun e w' => ∃ v0_ : Value, e = .returned v0_ ∧ Kd.R (Kd.int .i64) 3 w' w.heap.size (fun _ => True) v0_ r ∧ Below w.heap.size w w' := by
  unfold names_Twins.f at h
  split at h
  case isFalse => cases h
  case isTrue hlen =>
  split at h
  case isFalse => cases h
  case isTrue hall =>
  have HRR := Aside0.mk (Option.some.inj h)
  have HWF := Aside0.mk (List.all_eq_true.1 hall)
  have HR := Aside0.mk hr0
  clear h hall hr0
  have hmm := @run_makeMap Try.prog
  go_enter Try.func41, Try.ntmps41
  go_wp2_with fail
  go_loopg [3, 10] l0.length (fun kq v3' v10 wr' => ∃ (v3 : Value) (wr : World) (i : Nat), v3 = v3' ∧ wr = wr' ∧ Aside0 (l0.length - i = kq) ∧ Aside0 (i ≤ l0.length) ∧ v10 = .int .i64 (i : Int) ∧ Aside0 (names_Twins.Rel wr w.heap.size i v3 (l0.map bts)) ∧ Aside0 (Below w.heap.size w wr))
  case atStart => exact ⟨_, _, 0, rfl, rfl, ⟨rfl⟩, ⟨Nat.zero_le _⟩, rfl, ⟨⟨⟨_, World.ownsMap_made _ _ _ _, Counts.empty _⟩, Kd.R_nil _ _ _ _ _⟩⟩, ⟨(Below.refl _ _).alloc (Nat.le_refl _) _⟩⟩
  case round =>
    obtain ⟨v3, wr, i, rfl, rfl, HK, HI, rfl, HREL, HB⟩ := hrel
    by_cases hi : i < l0.length
    · have hlt : decide ((i : Int) < (l0.length : Int)) = true := decide_eq_true (by omega)
      have hC := Kd.C_below HR.out HB.out
      obtain ⟨ad, e1, hx0⟩ := Kd.at_string hC (i : Int) (by omega) (by omega)
      subst e1
      rw [Int.toNat_natCast] at hx0
      have hxl : rdOf ByteArray.empty l0 (i : Int) = l0[i] := by simp [rdOf, hi]
      have hmem : rdOf ByteArray.empty l0 (i : Int) ∈ l0 := by rw [hxl]; exact List.getElem_mem hi
      have hwf : (rdOf ByteArray.empty l0 (i : Int)).size ≤ maxLen := by have := HWF.out _ hmem; simp only [decide_eq_true_eq] at this; unfold maxLen; omega
      have hbx : bts (rdOf ByteArray.empty l0 (i : Int)) = (l0.map bts).getD i [] := by rw [hxl]; simp [List.getD, hi]
      have hkey := Go.WideMaps.keyOf_string_mk (P := Try.prog) Try.underlying9 hwf
      obtain ⟨⟨D, hD, hG⟩, hO⟩ := HREL.out
      have hts := twn_succ (l0.map bts) i
      have htl := twn_length (l0.map bts) i
      have hml : i < (l0.map bts).length := by rw [List.length_map]; exact hi
      have hG2 := hG.put hml
      have hcl := List.count_le_length (a := (l0.map bts).getD i []) (l := (l0.map bts).take i)
      rw [List.length_take, Nat.min_eq_left (by omega)] at hcl
      have hcm : (l0.map bts).getD i [] ∈ (l0.map bts).take i ↔ 0 < ((l0.map bts).take i).count ((l0.map bts).getD i []) := List.count_pos_iff.symm
      have hat1 := hG.2 ((l0.map bts).getD i [])
      have hat2 : (D.put (.string ((l0.map bts).getD i [])) (.lit (.int .i64 ((((l0.map bts).take i).count ((l0.map bts).getD i []) : Nat) + 1 : Int)))).atKey (.string ((l0.map bts).getD i [])) (.lit (.int .i64 0)) = _ := Go.Maps.atKey_put_same hG.1 (show WideAt.IsKeyLit (.string _) from trivial) _ _
      rw [← hbx] at hts hG2 hcl hcm hat1 hat2
      have HG := Aside0.mk hG
      generalize hxx : rdOf ByteArray.empty l0 (i : Int) = x at *
      generalize hcc : ((l0.map bts).take i).count (bts x) = cn at *
      have HTS := Aside0.mk hts
      have HG2 := Aside0.mk hG2
      have HKEY : Aside0 (Go.keyOf Try.prog 9 (.string x) = some (.string (bts x))) := ⟨hkey⟩
      have HAT1 := Aside0.mk hat1
      have HAT2 := Aside0.mk hat2
      have HO := Aside0.mk hO
      have HCM := Aside0.mk hcm
      have hwl : (Lit.int .i64 ((cn : Int) + 1)).wf = true := WalkArith.wf_i64 (by omega)
      have HWL := Aside0.mk hwl
      clear hmem hC hxl hwf hbx hkey hG hO hts hml hG2 hat1 hat2 hxx hcc hcm hwl HREL
      generalize hns : twn (l0.map bts) i = nums at *
      have HNS := Aside0.mk hns
      clear hns
      obtain ⟨A3, c3, e3⟩ := Kd.R_slice HO.out
      subst e3
      have hgl := Go.Proofs.Ytfpmbognpacidaa.XNumber.lt hD
      have HD := Aside0.mk hD
      by_cases hin : 0 < cn
      · have dt : decide ((1 : Int) < (cn : Int) + 1) = true := decide_eq_true (by omega)
        have hstep : Aside0 (twn (l0.map bts) (i + 1) = nums ++ [(i : Int)]) := ⟨by rw [HTS.out, if_pos (HCM.out.2 hin)]⟩
        go_wp2_with (first
          | (at_lookup; refine wpList_lookup_own_int _ rfl _ _ 104 rfl 9 3 .i64 names_Twins.law Try.underlying104 Try.underlying3 (names_Twins.zeroE _) w.heap.size i D rfl hD _ _ rfl HKEY.out ?_; intro c hat hwc; obtain rfl : c = _ := Go.Proofs.Ytfpmbognpacidaa.XNumber.inj (hat.symm.trans HAT1.out); clear hat)
          | (at_mapUpdate; refine wpList_mapUpdate_own _ rfl _ _ _ 104 rfl 9 3 names_Twins.law Try.underlying104 _ w.heap.size i _ rfl hD (by unfold maxLen; omega) _ _ _ rfl rfl HKEY.out _ [] (plainElem_int Try.underlying3 HWL.out) ?_; intro w1 hown1 hgrow1; clear hD)
          | (at_lookup; refine wpList_lookup_own_int _ rfl _ _ 104 rfl 9 3 .i64 names_Twins.law Try.underlying104 Try.underlying3 (names_Twins.zeroE _) w.heap.size (i + 1) _ rfl hown1 _ _ rfl HKEY.out ?_; intro c hat hwc; obtain rfl : c = _ := Go.Proofs.Ytfpmbognpacidaa.XNumber.inj (hat.symm.trans HAT2.out); clear hat)
          | ((with_reducible refine gate_builtin (b := .append) (xs := #[.tmp 23, .tmp 25]) rfl ?_); at_builtin; refine Kd.R_append (Kd.int .i64) (w0 := w) w.heap.size rfl (.tmp 23) (.tmp 25) 45 3 (.int .i64 0) 8 rfl Try.underlying45 names_Twins.info8 rfl (by decide) (by omega) (.slice A3 nums.length c3) nums (i : Int) [.int .i64 (i : Int)] (fun k => k ≠ w.heap.size) (fun _ => False) rfl rfl ?aP (fun _ hk => hk.elim) ?aF ?aO ?aB ?aS ?aL ?aK))
        case aP => exact rfl
        case aF => intro k hk e; have := hgrow1.size; omega
        case aO => exact Kd.R_grown HO.out hgrow1 (fun k hk e => hk (by injection e))
        case aB => exact HB.out.grown hgrow1 HB.out.size (fun j hj => by cases hj; exact Nat.le_refl _)
        case aS => exact Nat.le_trans HB.out.size hgrow1.size
        case aL => omega
        case aK =>
          intro v1 w3 ho hb hg hat
          have hO1 : Kd.R (Kd.int .i64) 3 w1 w.heap.size (fun k => k ≠ w.heap.size) (.slice A3 nums.length c3) nums := Kd.R_grown HO.out hgrow1 (fun k hk e => hk (by injection e))
          have hne : w3.heap[w.heap.size]? = w1.heap[w.heap.size]? := hg.block _ (Go.Proofs.Ytfpmbognpacidaa.XNumber.lt hown1) (fun e => (hO1.1 _ e.symm) rfl)
          have HREL2 : Aside0 (names_Twins.Rel w3 w.heap.size (i + 1) v1 (l0.map bts)) := ⟨⟨⟨_, Go.Proofs.Ytfpmbognpacidaa.XNumber.stay hown1 hne, HG2.out⟩, by rw [hstep.out]; exact ho⟩⟩
          have HB3 := Aside0.mk hb
          clear ho hb hg hat hne hO1 hown1 hgrow1
          go_wp2
          go_roundg (l0.length - (i + 1))
          case measure => have := HK.out; omega
          case rel => exact ⟨_, _, i + 1, rfl, rfl, ⟨rfl⟩, ⟨hi⟩, by go_num, HREL2, HB3⟩
      · have dt : decide ((1 : Int) < (cn : Int) + 1) = false := decide_eq_false (by omega)
        have hstep : Aside0 (twn (l0.map bts) (i + 1) = nums) := ⟨by rw [HTS.out, if_neg (fun h_ => hin (HCM.out.1 h_)), List.append_nil]⟩
        go_wp2_with (first
          | (at_lookup; refine wpList_lookup_own_int _ rfl _ _ 104 rfl 9 3 .i64 names_Twins.law Try.underlying104 Try.underlying3 (names_Twins.zeroE _) w.heap.size i D rfl hD _ _ rfl HKEY.out ?_; intro c hat hwc; obtain rfl : c = _ := Go.Proofs.Ytfpmbognpacidaa.XNumber.inj (hat.symm.trans HAT1.out); clear hat)
          | (at_mapUpdate; refine wpList_mapUpdate_own _ rfl _ _ _ 104 rfl 9 3 names_Twins.law Try.underlying104 _ w.heap.size i _ rfl hD (by unfold maxLen; omega) _ _ _ rfl rfl HKEY.out _ [] (plainElem_int Try.underlying3 HWL.out) ?_; intro w1 hown1 hgrow1; clear hD)
          | (at_lookup; refine wpList_lookup_own_int _ rfl _ _ 104 rfl 9 3 .i64 names_Twins.law Try.underlying104 Try.underlying3 (names_Twins.zeroE _) w.heap.size (i + 1) _ rfl hown1 _ _ rfl HKEY.out ?_; intro c hat hwc; obtain rfl : c = _ := Go.Proofs.Ytfpmbognpacidaa.XNumber.inj (hat.symm.trans HAT2.out); clear hat))
        have hO1 : Kd.R (Kd.int .i64) 3 w1 w.heap.size (fun k => k ≠ w.heap.size) (.slice A3 nums.length c3) nums := Kd.R_grown HO.out hgrow1 (fun k hk e => hk (by injection e))
        have HREL2 : Aside0 (names_Twins.Rel w1 w.heap.size (i + 1) (.slice A3 nums.length c3) (l0.map bts)) := ⟨⟨⟨_, hown1, HG2.out⟩, by rw [hstep.out]; exact hO1⟩⟩
        have HB3 : Aside0 (Below w.heap.size w w1) := ⟨HB.out.grown hgrow1 HB.out.size (fun j hj => by cases hj; exact Nat.le_refl _)⟩
        clear hO1 hown1 hgrow1
        go_roundg (l0.length - (i + 1))
        case measure => have := HK.out; omega
        case rel => exact ⟨_, _, i + 1, rfl, rfl, ⟨rfl⟩, ⟨hi⟩, by go_num, HREL2, HB3⟩
    · have hlt : decide ((i : Int) < (l0.length : Int)) = false := decide_eq_false (by omega)
      have hil : i = l0.length := by have := HI.out; omega
      have HO := Aside0.mk HREL.out.2
      rw [hil] at HO
      have hres : twn (l0.map bts) l0.length = r := HRR.out
      rw [hres] at HO
      clear hil hres
      go_wp2_with fail
      go_ret
      exact ⟨_, rfl, Kd.R_mono HO.out (fun _ _ => trivial), HB.out⟩


end Go.Proofs.Ytfpmbognpacidaa.XM
