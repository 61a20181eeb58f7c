/-
  GroupTells: its walk.
-/
import Derived.Test.YtjlegibfeenglaaDoorXBack
namespace Go.Proofs.YtjlegibfeenglaaDoor
open Go Go.RowKit Go.Shelf Go.Proofs.YtjlegibfeenglaaDoor.XB Go.Proofs.YtjlegibfeenglaaDoor.XFuel Go.Proofs.YtjlegibfeenglaaDoorW.PrintWords
set_option linter.unusedVariables false
set_option linter.unusedSimpArgs false
attribute [local go_sem] Oper.semAt_some

theorem lit_R (w : World) (base : Nat) (hb : base ≤ w.heap.size) (xs : List Int) (hn : xs.length ≤ 1000) : Kd.R (Kd.int .i64) 3 (w.alloc (.cells (nums .i64 xs).toArray 3)) base (fun _ => True) (.slice (some ⟨w.heap.size, 0, none⟩) xs.length xs.length) xs :=
  Kd.R_of_own (own_lit (e := 3) (k := .i64) w base xs hb (by omega)) (fun _ _ => trivial)

theorem eql_func (b : Array Value) (W : World) : (binOp .eql 31 (.func (.func 20) #[] b) .nilFunc).run Tryd.prog W = .ok (.bool false) W := by kernel_rfl
theorem act_gen {F : Fence} {n : Nat} {P : Program} {c : Code} {Q : Exit → Act → World → Prop} {a : Act} {w : World} (h : ∀ tm, tm = a.tmps → c.wpIn F n P Q { tmps := tm, defers := a.defers } w) : c.wpIn F n P Q a w := h _ rfl
theorem results_box {tm : Array Value} {W : World} {g : Nat} (hp : tm.getD 4 undef = .pointer (some ⟨g, 0, none⟩)) (hb : Boxed W g 4 (.bool true)) : (results Tryd.f4 tm).run Tryd.prog W = .ok (.bool true) W := by
  have h : Tryd.f4.results = #[.cell 4 4] := by kernel_rfl
  have hc := hb.cell
  have hp' : tm[4]?.getD undef = .pointer (some ⟨g, 0, none⟩) := by simpa using hp
  simp [results, h, hp', asAddr, loadVar, hc, Sem.run_bind, Result.andThen]
def noPanic (Q : Exit → Act → World → Prop) : Exit → Act → World → Prop
  | .panic _, _, _ => False
  | e, a, w => Q e a w
theorem noPanic_le (Q : Exit → Act → World → Prop) : ∀ e a w, noPanic Q e a w → Q e a w := fun e a w h => by cases e <;> first | exact h | exact h.elim
theorem box_below {n B : Nat} {A W : World} {t : TypeId} {v : Value} (h : Boxed A B t v) (hb : Below n A W) (hB : B < n) : Boxed W B t v := (hb.block B hB).trans h
theorem below_of_drew {w w' : World} {n : Nat} (h : w' = w.drewN n) : Below w.heap.size w w' := Drawn0.below ⟨⟨n, h⟩⟩

set_option maxRecDepth 100000 in
set_option maxHeartbeats 4000000 in
theorem tells_calls (m : Nat) (hm : m < 18446744073709551616) (i : Int) (w : World) (hT : Tab w) (h0 : 0 < w.heap.size) :
    Calls Tryd.prog 4 #[.int .u64 m, .int .i64 i] w fun e w' => e = .returned (.bool true) ∧ Below w.heap.size w w' := by
  refine (callsIn_wide (n := 9)).1 ?_
  refine callsIn_of_wp_marks Tryd.func4 rfl trivial ?_ rfl
  simp only [Tryd.ntmps4, List.size_toArray, List.length_cons, List.length_nil, Nat.reduceAdd, Nat.reduceSub, Array.replicate_succ, Array.replicate_zero, List.push_toArray, List.append_toArray, List.nil_append, List.cons_append]
  refine wpIn_wide.2 ?_
  go_wp2_with fail
  go_at_call 9
  have hBa : Below w.heap.size w (w.alloc (.cells #[.bool false] 4)) := (Below.refl _ w).alloc (Nat.le_refl _) _
  have bO := Boxed.new w 4 (.bool false)
  generalize w.alloc (.cells #[.bool false] 4) = wa at hBa bO
  refine (refList_calls m hm wa).mono ?_
  rintro e w1 ⟨v1, rfl, hR1, hB1⟩
  obtain ⟨A1, c1, rfl, hcl1, hC1⟩ := Kd.R_reads hR1
  have hBb : Below w.heap.size w (w1.alloc (.cells #[.slice A1 (ints m).length c1] 23)) := (hBa.trans (hB1.mono hBa.size)).alloc (Nat.le_trans hBa.size hB1.size) _
  have hsa : w.heap.size < wa.heap.size := bO.lt
  have bO1 := (box_below bO hB1 hsa).alloc (.cells #[.slice A1 (ints m).length c1] 23)
  have bL1 := Boxed.new w1 23 (.slice A1 (ints m).length c1)
  have hC2 := Kd.C_below hC1 ((Below.refl _ w1).alloc (Nat.le_refl _) (.cells #[.slice A1 (ints m).length c1] 23))
  have h5 : w.heap.size < w1.heap.size := Nat.lt_of_lt_of_le hsa hB1.size
  obtain ⟨B5, hB5⟩ : ∃ B5, B5 = w1.heap.size := ⟨_, rfl⟩
  clear hR1 hB1 hC1 bO hBa hsa
  go_wp2_with fail
  go_at_call 10
  generalize w1.alloc (.cells #[.slice A1 (ints m).length c1] 23) = wb at hBb bO1 bL1 hC2
  rw [← hB5] at bL1 h5 ⊢
  clear hB5
  refine (refHas_calls m hm i wb).mono ?_
  rintro e w2 ⟨rfl, n2, hw2⟩
  have hw2b := below_of_drew hw2
  have hB2 : Below w.heap.size w w2 := hBb.trans (hw2b.mono hBb.size)
  have bO2 := box_below bO1 hw2b bO1.lt
  have bL2 := box_below bL1 hw2b bL1.lt
  have hC3 := Kd.C_below hC2 hw2b
  clear hw2 hw2b hBb bO1 bL1 hC2
  have hB3 : Below w.heap.size w (w2.alloc (.cells #[.int .i64 i] 3)) := hB2.alloc hB2.size _
  have hC4 := Kd.C_below hC3 ((Below.refl _ w2).alloc (Nat.le_refl _) (.cells #[.int .i64 i] 3))
  have hR3 : Kd.R (Kd.int .i64) 3 (w2.alloc (.cells #[.int .i64 i] 3)) w.heap.size (fun _ => True) (.slice (some ⟨w2.heap.size, 0, none⟩) 1 1) [i] := lit_R w2 w.heap.size hB2.size [i] (by simp)
  have hc5 := (bL2.alloc (.cells #[.int .i64 i] 3)).cell
  have hlen := ints_len m
  go_wp2_with (first | ((with_reducible refine gate_builtin (b := .append) (xs := #[.tmp 19, .tmp 20]) rfl ?_); at_builtin; refine Kd.R_append_rows (Kd.int .i64) (w0 := w) w.heap.size rfl (.tmp 19) (.tmp 20) 23 3 (.int .i64 0) 8 rfl Tryd.underlying23 info3 rfl (by decide) (by omega) _ [i] (ints m) A1 (ints m).length c1 (fun _ => True) (fun _ => False) rfl rfl hR3 hC4 (fun _ _ h => h) (fun _ h => h.elim) (fun _ _ => trivial) hB3 hB3.size (by simp; omega) ?_; intro v4 w4 hR4 hB4 hg4 hat4; obtain ⟨A7, c7, rfl, hcl7, hC7⟩ := Kd.R_reads hR4))
  have hB24 : Below w2.heap.size w2 w4 := (((Below.refl _ w2).alloc (Nat.le_refl _) (.cells #[.int .i64 i] 3)).grown hg4 (by simp) (fun k e => by cases e; exact Nat.le_refl _))
  have bO4 := box_below bO2 hB24 bO2.lt
  have bL4 := box_below bL2 hB24 bL2.lt
  have hCm := Kd.C_below hC3 hB24
  have hRw := lit_R w4 w4.heap.size (Nat.le_refl _) [] (by simp)
  have hB44 : Below w4.heap.size w4 (w4.alloc (.cells #[] 3)) := (Below.refl _ w4).alloc (Nat.le_refl _) _
  clear hB24 hB2 bO2 bL2 hC3 hB3 hC4 hR3 hc5 hR4 hg4 hat4
  have HC7 := Aside0.mk hC7
  have HCm := Aside0.mk hCm
  have BL4 := Aside0.mk bL4
  have BO4 := Aside0.mk bO4
  have HBw4 := Aside0.mk hB4
  clear hC7 hCm bL4 bO4 hB4
  go_loopg [8, 9] (ints m).length (fun kq v8 v9 wr => ∃ n : Nat, Aside0 (n ≤ (ints m).length) ∧ Aside0 ((ints m).length - n = kq) ∧ v9 = .int .i64 (n : Int) ∧ Aside0 (Kd.R (Kd.int .i64) 3 wr w4.heap.size (fun _ => True) v8 (((ints m).take n).filter (fun x => decide (x ≠ i)))) ∧ Aside0 (Below w4.heap.size w4 wr))
  case atStart => exact ⟨0, ⟨Nat.zero_le _⟩, ⟨by omega⟩, rfl, ⟨hRw⟩, ⟨hB44⟩⟩
  case round =>
    clear hRw hB44
    obtain ⟨n, HN, HK, rfl, HR, HB⟩ := hrel
    have hc5 := (box_below BL4.out HB.out BL4.out.lt).cell
    by_cases hlt : n < (ints m).length
    · have hlt' : decide ((n : Int) < ((ints m).length : Int)) = true := decide_eq_true (by omega)
      have hC := Kd.C_below HCm.out HB.out
      obtain ⟨ad, e1, hx0⟩ := Kd.at_int hC (n : Int) (by omega) (by omega)
      subst e1
      rw [Int.toNat_natCast, rd_at hlt] at hx0
      generalize hy : (ints m)[n] = y at hx0
      have HY := Aside0.mk hy
      clear hy hC
      by_cases hyi : y = i
      · have hne : (y != i) = false := by simp [hyi]
        go_wp2
        go_roundg ((ints m).length - (n + 1))
        case measure => have := HK.out; omega
        case rel =>
          refine ⟨n + 1, ⟨hlt⟩, ⟨rfl⟩, by go_num, ⟨?_⟩, HB⟩
          rw [List.take_add_one, List.getElem?_eq_getElem hlt, List.filter_append, HY.out]
          simpa [hyi] using HR.out
      · have hne : (y != i) = true := by simp [hyi]
        have hfl : (((ints m).take n).filter (fun x => decide (x ≠ i))).length ≤ 64 := by
          refine Nat.le_trans (List.length_filter_le _ _) ?_
          rw [List.length_take]; omega
        go_wp2_with (first | ((with_reducible refine gate_builtin (b := .append) (xs := #[.tmp 35, .tmp 40]) rfl ?_); at_builtin; refine Kd.R_append (Kd.int .i64) (w0 := w4) w4.heap.size rfl (.tmp 35) (.tmp 40) 23 3 (.int .i64 0) 8 rfl Tryd.underlying23 info3 rfl (by decide) (by omega) u8 _ y [.int .i64 y] (fun _ => True) (fun _ => False) rfl rfl rfl (fun _ hk => hk.elim) (fun _ _ => trivial) HR.out HB.out HB.out.size (by omega) ?_; intro v9 w9 hR9 hB9 hg9 hat9))
        go_roundg ((ints m).length - (n + 1))
        case measure => have := HK.out; omega
        case rel =>
          refine ⟨n + 1, ⟨hlt⟩, ⟨rfl⟩, by go_num, ⟨?_⟩, ⟨hB9⟩⟩
          rw [List.take_add_one, List.getElem?_eq_getElem hlt, List.filter_append, HY.out]
          simpa [hyi] using hR9
    · have hlt' : decide ((n : Int) < ((ints m).length : Int)) = false := decide_eq_false (by omega)
      have hn : n = (ints m).length := by have := HN.out; omega
      subst hn
      rw [List.take_length] at HR
      have hfe : (fun x : Int => decide (x ≠ i)) = fun x => !decide (x = i) := by funext x; simp
      rw [hfe] at HR
      clear hfe
      obtain ⟨A8, c8, rfl, hcl8, hC8⟩ := Kd.R_reads HR.out
      have HC8 := Aside0.mk hC8
      clear hC8
      have hBr : Below w.heap.size w wr := HBw4.out.trans (HB.out.mono HBw4.out.size)
      have bOr := box_below BO4.out HB.out BO4.out.lt
      have bLr := box_below BL4.out HB.out BL4.out.lt
      have hCr := Kd.C_below HCm.out HB.out
      have hC7r := Kd.C_below HC7.out HB.out

      go_wp2_with fail
      go_at_call 12
      refine (callsIn_wide.1 (each_in 5 m _)).mono ?_
      rintro e wE ⟨rfl, hwE⟩
      have heqf := eql_func
      go_wp2_with fail
      refine (wpIn_wide (n := 9)).1 ?_
      have hBe : Below wr.heap.size wr ((wr.alloc (.cells #[.int .i64 0] 3)).alloc (.cells #[.int .u64 m] 22)) := ((Below.refl _ wr).alloc (Nat.le_refl _) _).alloc (by simp) _
      have bN := (Boxed.new wr 3 (.int .i64 0)).alloc (.cells #[.int .u64 m] 22)
      have bM := Boxed.new (wr.alloc (.cells #[.int .i64 0] 3)) 22 (.int .u64 m)
      rw [World.size_alloc] at bM
      have hsz : ((wr.alloc (.cells #[.int .i64 0] 3)).alloc (.cells #[.int .u64 m] 22)).heap.size = wr.heap.size + 2 := by simp
      generalize (wr.alloc (.cells #[.int .i64 0] 3)).alloc (.cells #[.int .u64 m] 22) = We at hBe bN bM hsz ⊢
      have h0r : 0 < wr.heap.size := Nat.lt_of_lt_of_le h0 hBr.size
      have hTe : Tab We := (hT.below hBr h0).below hBe h0r
      refine act_gen (fun tm htm => ?_)
      dsimp only at htm ⊢
      refine wpIn_rangeFunc_ownF rfl (by decide : 1 ≤ 9) (gf := 20) (lb := #[.pointer (some ⟨wr.heap.size + 1, 0, none⟩)]) (by rw [htm]; rfl) trivial (enters_of Tryd.func20 (by kernel_rfl) rfl)
        (each_stops 8 (by decide) (wr.heap.size + 1) wr.heap.size m hm We (by omega) (by omega) h0r bM.cell hTe) belowK_t (belowK_b (by omega)) (Below.refl _ _) (fun _ => rfl)
        (fun (pre : List Nat) W => (Boxed W wr.heap.size 3 (.int .i64 (pre.length : Int)) ∧ pre.length < 3) ∧ Below wr.heap.size We W)
        (fun c (pre : List Nat) W => (c = .ret ∧ ¬ pre <+: bl m) ∨ ((c = .exit 2 ∧ pre.length = 3 ∧ Boxed W wr.heap.size 3 (.int .i64 3)) ∧ Below wr.heap.size We W))
        ?hI ?hIx ⟨⟨bN, by decide⟩, Below.refl _ _⟩
        (fun x => { tmps := (tm.setIfInBounds 47 (enc x)).setIfInBounds 12 (enc x), defers := [] }) ?assign ?body ?done ?stop
      case hI => exact OwnFrom.and (OwnFrom.and (Own.from (boxed_own _ _ (fun pre : List Nat => Value.int .i64 (pre.length : Int))) _) (ownFrom_pure _ _)) (ownFrom_below (by omega) (by omega))
      case hIx =>
        intro c
        rintro s X Y row (hs | ⟨⟨hs1, hs2, hs3⟩, hs4⟩) hg hr
        · exact .inl hs
        · exact .inr ⟨⟨hs1, hs2, (Own.from (boxed_own wr.heap.size 3 (fun _ : List Nat => Value.int .i64 3)) _) s X Y row hs3 hg hr⟩, ownFrom_below (β := List Nat) (B := We.heap.size) (by omega) (by omega) s X Y row hs4 hg hr⟩
      case assign =>
        intro l x W K hK
        subst htm
        gi_wp2
        exact hK
      case body =>
        rintro l pre x W ⟨⟨hBx, hp3⟩, hBW⟩ hlt
        subst htm
        have hBW' : Below wr.heap.size wr W := hBe.trans hBW
        have bLW := box_below bLr hBW' bLr.lt
        have bOW := box_below bOr hBW' bOr.lt
        have hCW := Kd.C_below hCr hBW'
        have hcL := bLW.cell
        have hcN := hBx.cell
        have hfN := hBx.frozen
        have hfO := bOW.frozen
        have hcO := bOW.cell
        have hln : pre.length < (ints m).length := by simpa [ints] using hlt
        obtain ⟨ad2, e2, hx2⟩ := Kd.at_int hCW (pre.length : Int) (by omega) (by omega)
        rw [Int.toNat_natCast, rd_at hln] at hx2
        have hge : decide ((pre.length : Int) ≥ ((ints m).length : Int)) = false := decide_eq_false (by omega)
        have hel : (ints m)[pre.length] = ((bl m)[pre.length] : Int) := by simp [ints]
        rw [hel] at hx2
        by_cases hxe : (bl m)[pre.length] = x
        · have hne : (((bl m)[pre.length] : Int) != (x : Int)) = false := by simp [hxe]
          have hset := hBx.set (.int .i64 ((pre.length : Int) + 1))
          have hbs := hBW.setCell (p := ⟨wr.heap.size, 0, none⟩) (Nat.le_refl _) (.int .i64 ((pre.length : Int) + 1))
          by_cases h2 : pre.length = 2
          · have h3 : (((pre.length : Int) + 1) == 3) = true := by simp; omega
            have H2 := Aside0.mk h2
            clear h2
            gi_wp2
            have hv : (pre.length : Int) + 1 = 3 := by have := H2.out; omega
            refine ⟨KeepsOthers.setCell _ _ _, .inr ⟨⟨rfl, by simp [H2.out], ?_⟩, hbs⟩⟩
            rw [hv] at hset ⊢
            exact hset
          · have h3 : (((pre.length : Int) + 1) == 3) = false := by simp; omega
            gi_wp2
            refine ⟨KeepsOthers.setCell _ _ _, (Below.refl _ W).setCell (p := ⟨wr.heap.size, 0, none⟩) (Nat.le_refl _) _, ⟨?_, ?_⟩, hbs⟩
            · simpa using hset
            · simp; omega
        · have hne : (((bl m)[pre.length] : Int) != (x : Int)) = true := by simp; omega
          gi_wp2
          refine ⟨KeepsOthers.setCell _ _ _, .inl ⟨rfl, fun hp => hxe ?_⟩⟩
          obtain ⟨t, ht⟩ := hp
          have h9 : (bl m)[pre.length]? = some x := by rw [← ht]; simp
          rw [List.getElem?_eq_getElem hlt] at h9
          exact Option.some.inj h9
      case done =>
        rintro D xs W hD rfl ⟨⟨hBx, hp3⟩, hBW⟩ hK
        subst htm
        have hBW' : Below wr.heap.size wr W := hBe.trans hBW
        have bLW := box_below bLr hBW' bLr.lt
        have bOW := box_below bOr hBW' bOr.lt
        have hcL := bLW.cell
        have hcN := hBx.cell
        have hil : (bl m).length = (ints m).length := by simp [ints]
        rw [hil] at hcN
        have hne1 : (((ints m).length : Int) != ((ints m).length : Int)) = false := by simp
        have hal : (ints m).length ≤ 9223372036854775807 := by omega
        have hfl8 : ((ints m).filter (fun x => !decide (x = i))).length ≤ 9223372036854775807 := Nat.le_trans (List.length_filter_le _ _) hal
        have HD := Aside0.mk hD
        have HKD := Aside0.mk hK
        clear hD hK
        gi_wp2
        go_wp2_with fail
        have HBY : Aside0 (Below W.heap.size W W.drew) := ⟨below_drew (Below.refl _ _)⟩
        refine Code.wp_mono (noPanic_le _) ?_
        refine wp_region_held_drew (S := fun w' => w'.cell? ⟨B5, 0, none⟩ = some (.slice A1 (ints m).length c1)) (by kernel_rfl) (by exact (box_below bLr (hBW'.trans (HBY.out.mono hBW'.size)) bLr.lt).cell) (fun hHeld => ?_)
        refine wpAnyH_take (i := 0) (oi := { dst := some 72, op := Go.Op.move (Go.Operand.tmp 0), type := 22, pos := "law.go:42", after := #[], guard := none }) (v := ?_) rfl (by kernel_rfl) (by kernel_rfl) (by kernel_rfl) (fun _ _ _ h => h) (Or.inl ⟨by rfl, ?hy0⟩) (by assumption) ?_
        case hy0 => intro w_ hSw; (try dsimp only at hSw); go_simp; all_goals (with_reducible rfl)
        (try simp only [Act.put, List.setIfInBounds_toArray, List.set_cons_zero, List.set_cons_succ])
        refine wpAnyH_take (i := 2) (oi := { dst := some 74, op := Go.Op.load 23 (Go.Operand.tmp 5), type := 23, pos := "law.go:42", after := #[], guard := none }) (v := ?_) rfl (by kernel_rfl) (by kernel_rfl) (by kernel_rfl) (fun _ _ _ h => h) (Or.inl ⟨by rfl, ?hy2⟩) (by assumption) ?_
        case hy2 => intro w_ hSw; (try dsimp only at hSw); go_simp; all_goals (with_reducible rfl)
        (try simp only [Act.put, List.setIfInBounds_toArray, List.set_cons_zero, List.set_cons_succ])
        refine wpAnyH_ready (rs := [1]) (by kernel_rfl) (by simp) ?_
        refine AllReadyH.cons (o := { dst := some 73, op := Go.Op.call { callee := Go.Callee.value (Go.Operand.func 7), args := #[Go.Operand.tmp 72], argTypes := #[22] }, type := 23, pos := "law.go:42", after := #[{ on := 0, ground := Go.Ground.data }], guard := none }) rfl (fun K hK => ?_) AllReadyH.nil
        go_simp
        go_at_call 7
        (refine (list_calls m hm _ ((hT.below hBr h0).below (hBW'.trans (HBY.out.mono hBW'.size)) h0r) (Nat.lt_of_lt_of_le h0r (hBW'.trans (HBY.out.mono hBW'.size)).size)).mono ?_; rintro e wA ⟨vA, rfl, hRA, hBA⟩; obtain ⟨AA, cA, rfl, hcA, hCA⟩ := Kd.R_reads hRA; have n_ : Aside0 (Below W.heap.size W wA) := ⟨HBY.out.trans (hBA.mono HBY.out.size)⟩; clear HBY hRA hBA; have HBY := n_; clear n_; have HCA := Aside0.mk hCA; clear hCA)
        (try go_wp2_with fail)
        refine hK.out _ _ (by (try dsimp only); exact (box_below bLr (hBW'.trans (HBY.out.mono hBW'.size)) bLr.lt).cell) (fun hHeld2 => ?_)
        clear hK K hHeld
        have hHeld := hHeld2
        clear hHeld2
        (try simp only [Act.put, List.setIfInBounds_toArray, List.set_cons_zero, List.set_cons_succ])
        refine wpAnyH_ready (rs := [3]) (by kernel_rfl) (by simp) ?_
        refine AllReadyH.cons (o := { dst := some 75, op := Go.Op.call { callee := Go.Callee.value (Go.Operand.func 13), args := #[Go.Operand.tmp 73, Go.Operand.tmp 74], argTypes := #[23, 23] }, type := 4, pos := "law.go:42", after := #[{ on := 1, ground := Go.Ground.data }, { on := 2, ground := Go.Ground.data }, { on := 1, ground := Go.Ground.chain }], guard := none }) rfl (fun K hK => ?_) AllReadyH.nil
        go_simp
        go_at_call 13
        (refine (same_calls (ints m) hal AA A1 cA c1 wA HCA.out hcA (Kd.C_below hCr (hBW'.trans (HBY.out.mono hBW'.size))) hcl1).mono ?_; rintro e wB ⟨rfl, nB, hwB⟩; have n_ : Aside0 (Below W.heap.size W wB) := ⟨HBY.out.trans ((below_of_drew hwB).mono HBY.out.size)⟩; clear hwB HBY; have HBY := n_; clear n_)
        (try go_wp2_with fail)
        refine hK.out _ _ (by (try dsimp only); exact (box_below bLr (hBW'.trans (HBY.out.mono hBW'.size)) bLr.lt).cell) (fun hHeld2 => ?_)
        clear hK K hHeld
        have hHeld := hHeld2
        clear hHeld2
        (try simp only [Act.put, List.setIfInBounds_toArray, List.set_cons_zero, List.set_cons_succ])
        refine wpAnyH_take (i := 4) (oi := { dst := some 76, op := Go.Op.move (Go.Operand.tmp 75), type := 4, pos := "law.go:42", after := #[{ on := 3, ground := Go.Ground.data }, { on := 3, ground := Go.Ground.chain }], guard := none }) (v := ?_) rfl (by kernel_rfl) (by kernel_rfl) (by kernel_rfl) (fun _ _ _ h => h) (Or.inl ⟨by rfl, ?hy4⟩) (by assumption) ?_
        case hy4 => intro w_ hSw; (try dsimp only at hSw); go_simp; all_goals (with_reducible rfl)
        (try simp only [Act.put, List.setIfInBounds_toArray, List.set_cons_zero, List.set_cons_succ])
        refine wpAnyH_take (i := 5) (oi := { dst := some 77, op := Go.Op.move (Go.Operand.tmp 0), type := 22, pos := "law.go:42", after := #[{ on := 4, ground := Go.Ground.guard }], guard := some (4, true) }) (v := ?_) rfl (by kernel_rfl) (by kernel_rfl) (by kernel_rfl) (fun _ _ _ h => h) (Or.inl ⟨by rfl, ?hy5⟩) (by assumption) ?_
        case hy5 => intro w_ hSw; (try dsimp only at hSw); go_simp; all_goals (with_reducible rfl)
        (try simp only [Act.put, List.setIfInBounds_toArray, List.set_cons_zero, List.set_cons_succ])
        refine wpAnyH_take (i := 6) (oi := { dst := some 78, op := Go.Op.move (Go.Operand.tmp 1), type := 3, pos := "law.go:42", after := #[{ on := 4, ground := Go.Ground.guard }], guard := some (4, true) }) (v := ?_) rfl (by kernel_rfl) (by kernel_rfl) (by kernel_rfl) (fun _ _ _ h => h) (Or.inl ⟨by rfl, ?hy6⟩) (by assumption) ?_
        case hy6 => intro w_ hSw; (try dsimp only at hSw); go_simp; all_goals (with_reducible rfl)
        (try simp only [Act.put, List.setIfInBounds_toArray, List.set_cons_zero, List.set_cons_succ])
        refine wpAnyH_take (i := 8) (oi := { dst := some 80, op := Go.Op.move (Go.Operand.tmp 6), type := 4, pos := "law.go:42", after := #[{ on := 4, ground := Go.Ground.guard }], guard := some (4, true) }) (v := ?_) rfl (by kernel_rfl) (by kernel_rfl) (by kernel_rfl) (fun _ _ _ h => h) (Or.inl ⟨by rfl, ?hy8⟩) (by assumption) ?_
        case hy8 => intro w_ hSw; (try dsimp only at hSw); go_simp; all_goals (with_reducible rfl)
        (try simp only [Act.put, List.setIfInBounds_toArray, List.set_cons_zero, List.set_cons_succ])
        refine wpAnyH_ready (rs := [7]) (by kernel_rfl) (by simp) ?_
        refine AllReadyH.cons (o := { dst := some 79, op := Go.Op.call { callee := Go.Callee.value (Go.Operand.func 14), args := #[Go.Operand.tmp 77, Go.Operand.tmp 78], argTypes := #[22, 3] }, type := 4, pos := "law.go:42", after := #[{ on := 5, ground := Go.Ground.data }, { on := 6, ground := Go.Ground.data }, { on := 4, ground := Go.Ground.chain }, { on := 4, ground := Go.Ground.guard }], guard := some (4, true) }) rfl (fun K hK => ?_) AllReadyH.nil
        go_simp
        go_at_call 14
        (refine (has_calls m hm i _).mono ?_; rintro e wC ⟨rfl, nC, hwC⟩; have n_ : Aside0 (Below W.heap.size W wC) := ⟨HBY.out.trans ((below_of_drew hwC).mono HBY.out.size)⟩; clear hwC HBY; have HBY := n_; clear n_)
        (try go_wp2_with fail)
        refine hK.out _ _ (by (try dsimp only); exact (box_below bLr (hBW'.trans (HBY.out.mono hBW'.size)) bLr.lt).cell) (fun hHeld2 => ?_)
        clear hK K hHeld
        have hHeld := hHeld2
        clear hHeld2
        (try simp only [Act.put, List.setIfInBounds_toArray, List.set_cons_zero, List.set_cons_succ])
        have hq1 : (hs m i == hs m i) = true := by simp
        refine wpAnyH_take (i := 9) (oi := { dst := some 81, op := Go.Op.binOp Go.BinOp.eql 4 (Go.Operand.tmp 79) (Go.Operand.tmp 80) 4, type := 4, pos := "law.go:42", after := #[{ on := 7, ground := Go.Ground.data }, { on := 8, ground := Go.Ground.data }, { on := 4, ground := Go.Ground.guard }], guard := some (4, true) }) (v := ?_) rfl (by kernel_rfl) (by kernel_rfl) (by kernel_rfl) (fun _ _ _ h => h) (Or.inl ⟨by rfl, ?hy9⟩) (by assumption) ?_
        case hy9 => intro w_ hSw; (try dsimp only at hSw); go_simp; all_goals (with_reducible rfl)
        (try simp only [Act.put, List.setIfInBounds_toArray, List.set_cons_zero, List.set_cons_succ])
        refine wpAnyH_take (i := 10) (oi := { dst := some 82, op := Go.Op.pick (Go.Operand.tmp 76) (Go.Operand.tmp 81) (Go.Operand.const (Go.Value.bool false)), type := 4, pos := "law.go:42", after := #[{ on := 4, ground := Go.Ground.data }, { on := 9, ground := Go.Ground.data }], guard := none }) (v := ?_) rfl (by kernel_rfl) (by kernel_rfl) (by kernel_rfl) (fun _ _ _ h => h) (Or.inl ⟨by rfl, ?hy10⟩) (by assumption) ?_
        case hy10 => intro w_ hSw; (try dsimp only at hSw); go_simp; all_goals (with_reducible rfl)
        (try simp only [Act.put, List.setIfInBounds_toArray, List.set_cons_zero, List.set_cons_succ])
        refine wpAnyH_take (i := 11) (oi := { dst := some 83, op := Go.Op.move (Go.Operand.tmp 82), type := 4, pos := "law.go:42", after := #[{ on := 10, ground := Go.Ground.data }, { on := 7, ground := Go.Ground.chain }], guard := none }) (v := ?_) rfl (by kernel_rfl) (by kernel_rfl) (by kernel_rfl) (fun _ _ _ h => h) (Or.inl ⟨by rfl, ?hy11⟩) (by assumption) ?_
        case hy11 => intro w_ hSw; (try dsimp only at hSw); go_simp; all_goals (with_reducible rfl)
        (try simp only [Act.put, List.setIfInBounds_toArray, List.set_cons_zero, List.set_cons_succ])
        refine wpAnyH_take (i := 12) (oi := { dst := some 84, op := Go.Op.move (Go.Operand.tmp 0), type := 22, pos := "law.go:42", after := #[{ on := 11, ground := Go.Ground.guard }], guard := some (11, true) }) (v := ?_) rfl (by kernel_rfl) (by kernel_rfl) (by kernel_rfl) (fun _ _ _ h => h) (Or.inl ⟨by rfl, ?hy12⟩) (by assumption) ?_
        case hy12 => intro w_ hSw; (try dsimp only at hSw); go_simp; all_goals (with_reducible rfl)
        (try simp only [Act.put, List.setIfInBounds_toArray, List.set_cons_zero, List.set_cons_succ])
        refine wpAnyH_take (i := 14) (oi := { dst := some 86, op := Go.Op.load 23 (Go.Operand.tmp 5), type := 23, pos := "law.go:42", after := #[{ on := 11, ground := Go.Ground.guard }], guard := some (11, true) }) (v := ?_) rfl (by kernel_rfl) (by kernel_rfl) (by kernel_rfl) (fun _ _ _ h => h) (Or.inl ⟨by rfl, ?hy14⟩) (by assumption) ?_
        case hy14 => intro w_ hSw; (try dsimp only at hSw); go_simp; all_goals (with_reducible rfl)
        (try simp only [Act.put, List.setIfInBounds_toArray, List.set_cons_zero, List.set_cons_succ])
        refine wpAnyH_take (i := 15) (oi := { dst := some 87, op := Go.Op.call { callee := Go.Callee.builtin Go.Builtin.len, args := #[Go.Operand.tmp 86], argTypes := #[23] }, type := 3, pos := "law.go:42", after := #[{ on := 14, ground := Go.Ground.data }, { on := 11, ground := Go.Ground.guard }], guard := some (11, true) }) (v := ?_) rfl (by kernel_rfl) (by kernel_rfl) (by kernel_rfl) (fun _ _ _ h => h) (Or.inl ⟨by rfl, ?hy15⟩) (by assumption) ?_
        case hy15 => intro w_ hSw; (try dsimp only at hSw); go_simp; all_goals (with_reducible rfl)
        (try simp only [Act.put, List.setIfInBounds_toArray, List.set_cons_zero, List.set_cons_succ])
        refine wpAnyH_ready (rs := [13]) (by kernel_rfl) (by simp) ?_
        refine AllReadyH.cons (o := { dst := some 85, op := Go.Op.call { callee := Go.Callee.value (Go.Operand.func 15), args := #[Go.Operand.tmp 84], argTypes := #[22] }, type := 3, pos := "law.go:42", after := #[{ on := 12, ground := Go.Ground.data }, { on := 11, ground := Go.Ground.chain }, { on := 11, ground := Go.Ground.guard }], guard := some (11, true) }) rfl (fun K hK => ?_) AllReadyH.nil
        go_simp
        go_at_call 15
        (refine (count_calls m hm _).mono ?_; rintro e wD ⟨rfl, nD, hwD⟩; have n_ : Aside0 (Below W.heap.size W wD) := ⟨HBY.out.trans ((below_of_drew hwD).mono HBY.out.size)⟩; clear hwD HBY; have HBY := n_; clear n_)
        (try go_wp2_with fail)
        refine hK.out _ _ (by (try dsimp only); exact (box_below bLr (hBW'.trans (HBY.out.mono hBW'.size)) bLr.lt).cell) (fun hHeld2 => ?_)
        clear hK K hHeld
        have hHeld := hHeld2
        clear hHeld2
        (try simp only [Act.put, List.setIfInBounds_toArray, List.set_cons_zero, List.set_cons_succ])
        have hq2 : ((((bl m).length : Nat) : Int) == (((ints m).length : Nat) : Int)) = true := by simp [ints]
        refine wpAnyH_take (i := 16) (oi := { dst := some 88, op := Go.Op.binOp Go.BinOp.eql 3 (Go.Operand.tmp 85) (Go.Operand.tmp 87) 3, type := 4, pos := "law.go:42", after := #[{ on := 13, ground := Go.Ground.data }, { on := 15, ground := Go.Ground.data }, { on := 11, ground := Go.Ground.guard }], guard := some (11, true) }) (v := ?_) rfl (by kernel_rfl) (by kernel_rfl) (by kernel_rfl) (fun _ _ _ h => h) (Or.inl ⟨by rfl, ?hy16⟩) (by assumption) ?_
        case hy16 => intro w_ hSw; (try dsimp only at hSw); go_simp; all_goals (with_reducible rfl)
        (try simp only [Act.put, List.setIfInBounds_toArray, List.set_cons_zero, List.set_cons_succ])
        refine wpAnyH_take (i := 17) (oi := { dst := some 89, op := Go.Op.pick (Go.Operand.tmp 83) (Go.Operand.tmp 88) (Go.Operand.const (Go.Value.bool false)), type := 4, pos := "law.go:42", after := #[{ on := 11, ground := Go.Ground.data }, { on := 16, ground := Go.Ground.data }], guard := none }) (v := ?_) rfl (by kernel_rfl) (by kernel_rfl) (by kernel_rfl) (fun _ _ _ h => h) (Or.inl ⟨by rfl, ?hy17⟩) (by assumption) ?_
        case hy17 => intro w_ hSw; (try dsimp only at hSw); go_simp; all_goals (with_reducible rfl)
        (try simp only [Act.put, List.setIfInBounds_toArray, List.set_cons_zero, List.set_cons_succ])
        refine wpAnyH_take (i := 18) (oi := { dst := some 90, op := Go.Op.move (Go.Operand.tmp 89), type := 4, pos := "law.go:42", after := #[{ on := 17, ground := Go.Ground.data }, { on := 13, ground := Go.Ground.chain }], guard := none }) (v := ?_) rfl (by kernel_rfl) (by kernel_rfl) (by kernel_rfl) (fun _ _ _ h => h) (Or.inl ⟨by rfl, ?hy18⟩) (by assumption) ?_
        case hy18 => intro w_ hSw; (try dsimp only at hSw); go_simp; all_goals (with_reducible rfl)
        (try simp only [Act.put, List.setIfInBounds_toArray, List.set_cons_zero, List.set_cons_succ])
        refine wpAnyH_take (i := 19) (oi := { dst := some 91, op := Go.Op.move (Go.Operand.tmp 0), type := 22, pos := "law.go:42", after := #[{ on := 18, ground := Go.Ground.guard }], guard := some (18, true) }) (v := ?_) rfl (by kernel_rfl) (by kernel_rfl) (by kernel_rfl) (fun _ _ _ h => h) (Or.inl ⟨by rfl, ?hy19⟩) (by assumption) ?_
        case hy19 => intro w_ hSw; (try dsimp only at hSw); go_simp; all_goals (with_reducible rfl)
        (try simp only [Act.put, List.setIfInBounds_toArray, List.set_cons_zero, List.set_cons_succ])
        refine wpAnyH_take (i := 20) (oi := { dst := some 92, op := Go.Op.move (Go.Operand.tmp 1), type := 3, pos := "law.go:42", after := #[{ on := 18, ground := Go.Ground.guard }], guard := some (18, true) }) (v := ?_) rfl (by kernel_rfl) (by kernel_rfl) (by kernel_rfl) (fun _ _ _ h => h) (Or.inl ⟨by rfl, ?hy20⟩) (by assumption) ?_
        case hy20 => intro w_ hSw; (try dsimp only at hSw); go_simp; all_goals (with_reducible rfl)
        (try simp only [Act.put, List.setIfInBounds_toArray, List.set_cons_zero, List.set_cons_succ])
        refine wpAnyH_take (i := 22) (oi := { dst := some 94, op := Go.Op.move (Go.Operand.tmp 7), type := 23, pos := "law.go:42", after := #[{ on := 18, ground := Go.Ground.guard }], guard := some (18, true) }) (v := ?_) rfl (by kernel_rfl) (by kernel_rfl) (by kernel_rfl) (fun _ _ _ h => h) (Or.inl ⟨by rfl, ?hy22⟩) (by assumption) ?_
        case hy22 => intro w_ hSw; (try dsimp only at hSw); go_simp; all_goals (with_reducible rfl)
        (try simp only [Act.put, List.setIfInBounds_toArray, List.set_cons_zero, List.set_cons_succ])
        refine wpAnyH_ready (rs := [21]) (by kernel_rfl) (by simp) ?_
        refine AllReadyH.cons (o := { dst := some 93, op := Go.Op.call { callee := Go.Callee.value (Go.Operand.func 16), args := #[Go.Operand.tmp 91, Go.Operand.tmp 92], argTypes := #[22, 3] }, type := 22, pos := "law.go:42", after := #[{ on := 19, ground := Go.Ground.data }, { on := 20, ground := Go.Ground.data }, { on := 18, ground := Go.Ground.chain }, { on := 18, ground := Go.Ground.guard }], guard := some (18, true) }) rfl (fun K hK => ?_) AllReadyH.nil
        go_simp
        go_at_call 16
        (refine (with_calls m hm i _).mono ?_; rintro e wF ⟨rfl, nF, hwF⟩; have n_ : Aside0 (Below W.heap.size W wF) := ⟨HBY.out.trans ((below_of_drew hwF).mono HBY.out.size)⟩; clear hwF HBY; have HBY := n_; clear n_)
        (try go_wp2_with fail)
        refine hK.out _ _ (by (try dsimp only); exact (box_below bLr (hBW'.trans (HBY.out.mono hBW'.size)) bLr.lt).cell) (fun hHeld2 => ?_)
        clear hK K hHeld
        have hHeld := hHeld2
        clear hHeld2
        (try simp only [Act.put, List.setIfInBounds_toArray, List.set_cons_zero, List.set_cons_succ])
        refine wpAnyH_ready (rs := [23]) (by kernel_rfl) (by simp) ?_
        refine AllReadyH.cons (o := { dst := some 95, op := Go.Op.call { callee := Go.Callee.value (Go.Operand.func 8), args := #[Go.Operand.tmp 94], argTypes := #[23] }, type := 22, pos := "law.go:42", after := #[{ on := 22, ground := Go.Ground.data }, { on := 21, ground := Go.Ground.chain }, { on := 18, ground := Go.Ground.guard }], guard := some (18, true) }) rfl (fun K hK => ?_) AllReadyH.nil
        go_simp
        go_at_call 8
        (refine (refOf_calls (i :: ints m) (by simp; omega) A7 c7 _ (Kd.C_below hC7r (hBW'.trans (HBY.out.mono hBW'.size))) hcl7).mono ?_; rintro e wG ⟨rfl, nG, hwG⟩; have n_ : Aside0 (Below W.heap.size W wG) := ⟨HBY.out.trans ((below_of_drew hwG).mono HBY.out.size)⟩; clear hwG HBY; have HBY := n_; clear n_)
        (try go_wp2_with fail)
        refine hK.out _ _ (by (try dsimp only); exact (box_below bLr (hBW'.trans (HBY.out.mono hBW'.size)) bLr.lt).cell) (fun hHeld2 => ?_)
        clear hK K hHeld
        have hHeld := hHeld2
        clear hHeld2
        (try simp only [Act.put, List.setIfInBounds_toArray, List.set_cons_zero, List.set_cons_succ])
        have hq3 : (((m ||| sb i : Nat) : Int) == ((U (i :: ints m) : Nat) : Int)) = true := by rw [U_with m hm i]; simp
        refine wpAnyH_take (i := 24) (oi := { dst := some 96, op := Go.Op.binOp Go.BinOp.eql 22 (Go.Operand.tmp 93) (Go.Operand.tmp 95) 22, type := 4, pos := "law.go:42", after := #[{ on := 21, ground := Go.Ground.data }, { on := 23, ground := Go.Ground.data }, { on := 18, ground := Go.Ground.guard }], guard := some (18, true) }) (v := ?_) rfl (by kernel_rfl) (by kernel_rfl) (by kernel_rfl) (fun _ _ _ h => h) (Or.inl ⟨by rfl, ?hy24⟩) (by assumption) ?_
        case hy24 => intro w_ hSw; (try dsimp only at hSw); go_simp; all_goals (with_reducible rfl)
        (try simp only [Act.put, List.setIfInBounds_toArray, List.set_cons_zero, List.set_cons_succ])
        refine wpAnyH_take (i := 25) (oi := { dst := some 97, op := Go.Op.pick (Go.Operand.tmp 90) (Go.Operand.tmp 96) (Go.Operand.const (Go.Value.bool false)), type := 4, pos := "law.go:42", after := #[{ on := 18, ground := Go.Ground.data }, { on := 24, ground := Go.Ground.data }], guard := none }) (v := ?_) rfl (by kernel_rfl) (by kernel_rfl) (by kernel_rfl) (fun _ _ _ h => h) (Or.inl ⟨by rfl, ?hy25⟩) (by assumption) ?_
        case hy25 => intro w_ hSw; (try dsimp only at hSw); go_simp; all_goals (with_reducible rfl)
        (try simp only [Act.put, List.setIfInBounds_toArray, List.set_cons_zero, List.set_cons_succ])
        refine wpAnyH_take (i := 26) (oi := { dst := some 98, op := Go.Op.move (Go.Operand.tmp 97), type := 4, pos := "law.go:42", after := #[{ on := 25, ground := Go.Ground.data }, { on := 23, ground := Go.Ground.chain }], guard := none }) (v := ?_) rfl (by kernel_rfl) (by kernel_rfl) (by kernel_rfl) (fun _ _ _ h => h) (Or.inl ⟨by rfl, ?hy26⟩) (by assumption) ?_
        case hy26 => intro w_ hSw; (try dsimp only at hSw); go_simp; all_goals (with_reducible rfl)
        (try simp only [Act.put, List.setIfInBounds_toArray, List.set_cons_zero, List.set_cons_succ])
        refine wpAnyH_take (i := 27) (oi := { dst := some 99, op := Go.Op.move (Go.Operand.tmp 0), type := 22, pos := "law.go:42", after := #[{ on := 26, ground := Go.Ground.guard }], guard := some (26, true) }) (v := ?_) rfl (by kernel_rfl) (by kernel_rfl) (by kernel_rfl) (fun _ _ _ h => h) (Or.inl ⟨by rfl, ?hy27⟩) (by assumption) ?_
        case hy27 => intro w_ hSw; (try dsimp only at hSw); go_simp; all_goals (with_reducible rfl)
        (try simp only [Act.put, List.setIfInBounds_toArray, List.set_cons_zero, List.set_cons_succ])
        refine wpAnyH_take (i := 28) (oi := { dst := some 100, op := Go.Op.move (Go.Operand.tmp 1), type := 3, pos := "law.go:42", after := #[{ on := 26, ground := Go.Ground.guard }], guard := some (26, true) }) (v := ?_) rfl (by kernel_rfl) (by kernel_rfl) (by kernel_rfl) (fun _ _ _ h => h) (Or.inl ⟨by rfl, ?hy28⟩) (by assumption) ?_
        case hy28 => intro w_ hSw; (try dsimp only at hSw); go_simp; all_goals (with_reducible rfl)
        (try simp only [Act.put, List.setIfInBounds_toArray, List.set_cons_zero, List.set_cons_succ])
        refine wpAnyH_take (i := 30) (oi := { dst := some 102, op := Go.Op.move (Go.Operand.tmp 8), type := 23, pos := "law.go:42", after := #[{ on := 26, ground := Go.Ground.guard }], guard := some (26, true) }) (v := ?_) rfl (by kernel_rfl) (by kernel_rfl) (by kernel_rfl) (fun _ _ _ h => h) (Or.inl ⟨by rfl, ?hy30⟩) (by assumption) ?_
        case hy30 => intro w_ hSw; (try dsimp only at hSw); go_simp; all_goals (with_reducible rfl)
        (try simp only [Act.put, List.setIfInBounds_toArray, List.set_cons_zero, List.set_cons_succ])
        refine wpAnyH_ready (rs := [29]) (by kernel_rfl) (by simp) ?_
        refine AllReadyH.cons (o := { dst := some 101, op := Go.Op.call { callee := Go.Callee.value (Go.Operand.func 17), args := #[Go.Operand.tmp 99, Go.Operand.tmp 100], argTypes := #[22, 3] }, type := 22, pos := "law.go:42", after := #[{ on := 27, ground := Go.Ground.data }, { on := 28, ground := Go.Ground.data }, { on := 26, ground := Go.Ground.chain }, { on := 26, ground := Go.Ground.guard }], guard := some (26, true) }) rfl (fun K hK => ?_) AllReadyH.nil
        go_simp
        go_at_call 17
        (refine (without_calls m hm i _).mono ?_; rintro e wH ⟨rfl, nH, hwH⟩; have n_ : Aside0 (Below W.heap.size W wH) := ⟨HBY.out.trans ((below_of_drew hwH).mono HBY.out.size)⟩; clear hwH HBY; have HBY := n_; clear n_)
        (try go_wp2_with fail)
        refine hK.out _ _ (by (try dsimp only); exact (box_below bLr (hBW'.trans (HBY.out.mono hBW'.size)) bLr.lt).cell) (fun hHeld2 => ?_)
        clear hK K hHeld
        have hHeld := hHeld2
        clear hHeld2
        (try simp only [Act.put, List.setIfInBounds_toArray, List.set_cons_zero, List.set_cons_succ])
        refine wpAnyH_ready (rs := [31]) (by kernel_rfl) (by simp) ?_
        refine AllReadyH.cons (o := { dst := some 103, op := Go.Op.call { callee := Go.Callee.value (Go.Operand.func 8), args := #[Go.Operand.tmp 102], argTypes := #[23] }, type := 22, pos := "law.go:42", after := #[{ on := 30, ground := Go.Ground.data }, { on := 29, ground := Go.Ground.chain }, { on := 26, ground := Go.Ground.guard }], guard := some (26, true) }) rfl (fun K hK => ?_) AllReadyH.nil
        go_simp
        go_at_call 8
        (refine (refOf_calls ((ints m).filter (fun x => !decide (x = i))) hfl8 A8 c8 _ (Kd.C_below HC8.out (hBW'.trans (HBY.out.mono hBW'.size))) hcl8).mono ?_; rintro e wI ⟨rfl, nI, hwI⟩; have n_ : Aside0 (Below W.heap.size W wI) := ⟨HBY.out.trans ((below_of_drew hwI).mono HBY.out.size)⟩; clear hwI HBY; have HBY := n_; clear n_)
        (try go_wp2_with fail)
        refine hK.out _ _ (by (try dsimp only); exact (box_below bLr (hBW'.trans (HBY.out.mono hBW'.size)) bLr.lt).cell) (fun hHeld2 => ?_)
        clear hK K hHeld
        have hHeld := hHeld2
        clear hHeld2
        (try simp only [Act.put, List.setIfInBounds_toArray, List.set_cons_zero, List.set_cons_succ])
        have hq4 : (((m &&& (18446744073709551615 - sb i) : Nat) : Int) == ((U ((ints m).filter (fun x => !decide (x = i))) : Nat) : Int)) = true := by rw [U_without m hm i]; simp
        refine wpAnyH_take (i := 32) (oi := { dst := some 104, op := Go.Op.binOp Go.BinOp.eql 22 (Go.Operand.tmp 101) (Go.Operand.tmp 103) 22, type := 4, pos := "law.go:42", after := #[{ on := 29, ground := Go.Ground.data }, { on := 31, ground := Go.Ground.data }, { on := 26, ground := Go.Ground.guard }], guard := some (26, true) }) (v := ?_) rfl (by kernel_rfl) (by kernel_rfl) (by kernel_rfl) (fun _ _ _ h => h) (Or.inl ⟨by rfl, ?hy32⟩) (by assumption) ?_
        case hy32 => intro w_ hSw; (try dsimp only at hSw); go_simp; all_goals (with_reducible rfl)
        (try simp only [Act.put, List.setIfInBounds_toArray, List.set_cons_zero, List.set_cons_succ])
        refine wpAnyH_take (i := 33) (oi := { dst := some 105, op := Go.Op.pick (Go.Operand.tmp 98) (Go.Operand.tmp 104) (Go.Operand.const (Go.Value.bool false)), type := 4, pos := "law.go:42", after := #[{ on := 26, ground := Go.Ground.data }, { on := 32, ground := Go.Ground.data }], guard := none }) (v := ?_) rfl (by kernel_rfl) (by kernel_rfl) (by kernel_rfl) (fun _ _ _ h => h) (Or.inl ⟨by rfl, ?hy33⟩) (by assumption) ?_
        case hy33 => intro w_ hSw; (try dsimp only at hSw); go_simp; all_goals (with_reducible rfl)
        (try simp only [Act.put, List.setIfInBounds_toArray, List.set_cons_zero, List.set_cons_succ])
        refine wpAnyH_take (i := 34) (oi := { dst := some 106, op := Go.Op.move (Go.Operand.tmp 105), type := 4, pos := "law.go:42", after := #[{ on := 33, ground := Go.Ground.data }, { on := 31, ground := Go.Ground.chain }], guard := none }) (v := ?_) rfl (by kernel_rfl) (by kernel_rfl) (by kernel_rfl) (fun _ _ _ h => h) (Or.inl ⟨by rfl, ?hy34⟩) (by assumption) ?_
        case hy34 => intro w_ hSw; (try dsimp only at hSw); go_simp; all_goals (with_reducible rfl)
        (try simp only [Act.put, List.setIfInBounds_toArray, List.set_cons_zero, List.set_cons_succ])
        refine wpAnyH_ready (rs := [35]) (by kernel_rfl) (by simp) ?_
        refine AllReadyH.cons (o := { dst := some 107, op := Go.Op.call { callee := Go.Callee.value (Go.Operand.func 5), args := #[], argTypes := #[] }, type := 4, pos := "law.go:42", after := #[{ on := 34, ground := Go.Ground.chain }, { on := 34, ground := Go.Ground.guard }], guard := some (34, true) }) rfl (fun K hK => ?_) AllReadyH.nil
        go_simp
        go_at_call 5
        (refine (awake_calls _ ((hT.below hBr h0).below (hBW'.trans (HBY.out.mono hBW'.size)) h0r) (Nat.lt_of_lt_of_le h0r (hBW'.trans (HBY.out.mono hBW'.size)).size)).mono ?_; rintro e wJ ⟨rfl, hBJ⟩; have n_ : Aside0 (Below W.heap.size W wJ) := ⟨HBY.out.trans (hBJ.mono HBY.out.size)⟩; clear HBY hBJ; have HBY := n_; clear n_)
        (try go_wp2_with fail)
        refine hK.out _ _ (by (try dsimp only); exact (box_below bLr (hBW'.trans (HBY.out.mono hBW'.size)) bLr.lt).cell) (fun hHeld2 => ?_)
        clear hK K hHeld
        have hHeld := hHeld2
        clear hHeld2
        (try simp only [Act.put, List.setIfInBounds_toArray, List.set_cons_zero, List.set_cons_succ])
        refine wpAnyH_take (i := 36) (oi := { dst := some 108, op := Go.Op.pick (Go.Operand.tmp 106) (Go.Operand.tmp 107) (Go.Operand.const (Go.Value.bool false)), type := 4, pos := "law.go:42", after := #[{ on := 34, ground := Go.Ground.data }, { on := 35, ground := Go.Ground.data }], guard := none }) (v := ?_) rfl (by kernel_rfl) (by kernel_rfl) (by kernel_rfl) (fun _ _ _ h => h) (Or.inl ⟨by rfl, ?hy36⟩) (by assumption) ?_
        case hy36 => intro w_ hSw; (try dsimp only at hSw); go_simp; all_goals (with_reducible rfl)
        (try simp only [Act.put, List.setIfInBounds_toArray, List.set_cons_zero, List.set_cons_succ])
        have bOf := box_below bOr (hBW'.trans (HBY.out.mono hBW'.size)) bOr.lt
        have hfO := bOf.frozen
        have hcO := bOf.cell
        refine wpAnyH_ready (rs := [37]) (by kernel_rfl) (by simp) ?_
        refine AllReadyH.cons (o := { dst := none, op := Go.Op.store 4 (Go.Operand.tmp 4) (Go.Operand.tmp 108), type := 0, pos := "law.go:42", after := #[{ on := 36, ground := Go.Ground.data }, { on := 35, ground := Go.Ground.chain }, { on := 0, ground := Go.Ground.phase }, { on := 1, ground := Go.Ground.phase }, { on := 2, ground := Go.Ground.phase }, { on := 3, ground := Go.Ground.phase }, { on := 4, ground := Go.Ground.phase }, { on := 5, ground := Go.Ground.phase }, { on := 6, ground := Go.Ground.phase }, { on := 7, ground := Go.Ground.phase }, { on := 8, ground := Go.Ground.phase }, { on := 9, ground := Go.Ground.phase }, { on := 10, ground := Go.Ground.phase }, { on := 11, ground := Go.Ground.phase }, { on := 12, ground := Go.Ground.phase }, { on := 13, ground := Go.Ground.phase }, { on := 14, ground := Go.Ground.phase }, { on := 15, ground := Go.Ground.phase }, { on := 16, ground := Go.Ground.phase }, { on := 17, ground := Go.Ground.phase }, { on := 18, ground := Go.Ground.phase }, { on := 19, ground := Go.Ground.phase }, { on := 20, ground := Go.Ground.phase }, { on := 21, ground := Go.Ground.phase }, { on := 22, ground := Go.Ground.phase }, { on := 23, ground := Go.Ground.phase }, { on := 24, ground := Go.Ground.phase }, { on := 25, ground := Go.Ground.phase }, { on := 26, ground := Go.Ground.phase }, { on := 27, ground := Go.Ground.phase }, { on := 28, ground := Go.Ground.phase }, { on := 29, ground := Go.Ground.phase }, { on := 30, ground := Go.Ground.phase }, { on := 31, ground := Go.Ground.phase }, { on := 32, ground := Go.Ground.phase }, { on := 33, ground := Go.Ground.phase }, { on := 34, ground := Go.Ground.phase }, { on := 35, ground := Go.Ground.phase }, { on := 36, ground := Go.Ground.phase }], guard := none }) rfl (fun K hK => ?_) AllReadyH.nil
        go_simp
        refine hK.out _ _ (by (try dsimp only); exact ((box_below bLr (hBW'.trans (HBY.out.mono hBW'.size)) bLr.lt).other (Nat.ne_of_gt h5) _).cell) (fun hHeld2 => ?_)
        clear hK K hHeld
        have hHeld := hHeld2
        clear hHeld2
        (try simp only [Act.put, List.setIfInBounds_toArray, List.set_cons_zero, List.set_cons_succ])
        refine wpAnyH_done (by kernel_rfl) ?_ _
        clear hHeld
        dsimp only [noPanic]
        go_wp2
        have hsetO := bOf.set (.bool true)
        have hDlt : D < W.heap.size := (Array.getElem?_eq_some_iff.1 HKD.out).1
        have hDne : D ≠ w.heap.size := by have h1 := HD.out; have h2 := hBr.size; omega
        have hKJ := (Below.heap_setCell wJ ⟨w.heap.size, 0, none⟩ (.bool true) D hDne).trans ((HBY.out.block D hDlt).trans HKD.out)
        have hBJ := (hBr.trans ((hBW'.trans (HBY.out.mono hBW'.size)).mono hBr.size)).setCell (p := ⟨w.heap.size, 0, none⟩) (Nat.le_refl _) (.bool true)
        refine ⟨by simp, .inl ⟨_, _, rfl, run_takeDeferred hKJ, ?_⟩⟩
        exact ⟨_, results_box rfl ((World.putObj_heap_other (Ne.symm hDne)).trans hsetO), rfl, hBJ.trans (belowK_b (w := w) (Nat.le_refl _) _ D _ _ (by have h1 := HD.out; have h2 := hBr.size; omega) hKJ rfl rfl)⟩
      case stop =>
        rintro D c pre W hD hpre (⟨rfl, hno⟩ | ⟨⟨rfl, hp3, hBx⟩, hBW⟩) hK
        · exact absurd hpre hno
        subst htm
        have hBW' : Below wr.heap.size wr W := hBe.trans hBW
        have bLW := box_below bLr hBW' bLr.lt
        have bOW := box_below bOr hBW' bOr.lt
        have hcL := bLW.cell
        have hcN := hBx.cell
        have hal : (ints m).length ≤ 9223372036854775807 := by omega
        have hfl8 : ((ints m).filter (fun x => !decide (x = i))).length ≤ 9223372036854775807 := Nat.le_trans (List.length_filter_le _ _) hal
        have HD := Aside0.mk hD
        have HKD := Aside0.mk hK
        have HP3 := Aside0.mk hp3
        have HPR := Aside0.mk hpre
        clear hD hK hp3 hpre
        gi_wp2
        cases hq0 : ((3 : Int) != (((ints m).length : Nat) : Int)) with
        | false =>
          go_wp2_with fail
          have HBY : Aside0 (Below W.heap.size W W.drew) := ⟨below_drew (Below.refl _ _)⟩
          refine Code.wp_mono (noPanic_le _) ?_
          refine wp_region_held_drew (S := fun w' => w'.cell? ⟨B5, 0, none⟩ = some (.slice A1 (ints m).length c1)) (by kernel_rfl) (by exact (box_below bLr (hBW'.trans (HBY.out.mono hBW'.size)) bLr.lt).cell) (fun hHeld => ?_)
          refine wpAnyH_take (i := 0) (oi := { dst := some 72, op := Go.Op.move (Go.Operand.tmp 0), type := 22, pos := "law.go:42", after := #[], guard := none }) (v := ?_) rfl (by kernel_rfl) (by kernel_rfl) (by kernel_rfl) (fun _ _ _ h => h) (Or.inl ⟨by rfl, ?hy0⟩) (by assumption) ?_
          case hy0 => intro w_ hSw; (try dsimp only at hSw); go_simp; all_goals (with_reducible rfl)
          (try simp only [Act.put, List.setIfInBounds_toArray, List.set_cons_zero, List.set_cons_succ])
          refine wpAnyH_take (i := 2) (oi := { dst := some 74, op := Go.Op.load 23 (Go.Operand.tmp 5), type := 23, pos := "law.go:42", after := #[], guard := none }) (v := ?_) rfl (by kernel_rfl) (by kernel_rfl) (by kernel_rfl) (fun _ _ _ h => h) (Or.inl ⟨by rfl, ?hy2⟩) (by assumption) ?_
          case hy2 => intro w_ hSw; (try dsimp only at hSw); go_simp; all_goals (with_reducible rfl)
          (try simp only [Act.put, List.setIfInBounds_toArray, List.set_cons_zero, List.set_cons_succ])
          refine wpAnyH_ready (rs := [1]) (by kernel_rfl) (by simp) ?_
          refine AllReadyH.cons (o := { dst := some 73, op := Go.Op.call { callee := Go.Callee.value (Go.Operand.func 7), args := #[Go.Operand.tmp 72], argTypes := #[22] }, type := 23, pos := "law.go:42", after := #[{ on := 0, ground := Go.Ground.data }], guard := none }) rfl (fun K hK => ?_) AllReadyH.nil
          go_simp
          go_at_call 7
          (refine (list_calls m hm _ ((hT.below hBr h0).below (hBW'.trans (HBY.out.mono hBW'.size)) h0r) (Nat.lt_of_lt_of_le h0r (hBW'.trans (HBY.out.mono hBW'.size)).size)).mono ?_; rintro e wA ⟨vA, rfl, hRA, hBA⟩; obtain ⟨AA, cA, rfl, hcA, hCA⟩ := Kd.R_reads hRA; have n_ : Aside0 (Below W.heap.size W wA) := ⟨HBY.out.trans (hBA.mono HBY.out.size)⟩; clear HBY hRA hBA; have HBY := n_; clear n_; have HCA := Aside0.mk hCA; clear hCA)
          (try go_wp2_with fail)
          refine hK.out _ _ (by (try dsimp only); exact (box_below bLr (hBW'.trans (HBY.out.mono hBW'.size)) bLr.lt).cell) (fun hHeld2 => ?_)
          clear hK K hHeld
          have hHeld := hHeld2
          clear hHeld2
          (try simp only [Act.put, List.setIfInBounds_toArray, List.set_cons_zero, List.set_cons_succ])
          refine wpAnyH_ready (rs := [3]) (by kernel_rfl) (by simp) ?_
          refine AllReadyH.cons (o := { dst := some 75, op := Go.Op.call { callee := Go.Callee.value (Go.Operand.func 13), args := #[Go.Operand.tmp 73, Go.Operand.tmp 74], argTypes := #[23, 23] }, type := 4, pos := "law.go:42", after := #[{ on := 1, ground := Go.Ground.data }, { on := 2, ground := Go.Ground.data }, { on := 1, ground := Go.Ground.chain }], guard := none }) rfl (fun K hK => ?_) AllReadyH.nil
          go_simp
          go_at_call 13
          (refine (same_calls (ints m) hal AA A1 cA c1 wA HCA.out hcA (Kd.C_below hCr (hBW'.trans (HBY.out.mono hBW'.size))) hcl1).mono ?_; rintro e wB ⟨rfl, nB, hwB⟩; have n_ : Aside0 (Below W.heap.size W wB) := ⟨HBY.out.trans ((below_of_drew hwB).mono HBY.out.size)⟩; clear hwB HBY; have HBY := n_; clear n_)
          (try go_wp2_with fail)
          refine hK.out _ _ (by (try dsimp only); exact (box_below bLr (hBW'.trans (HBY.out.mono hBW'.size)) bLr.lt).cell) (fun hHeld2 => ?_)
          clear hK K hHeld
          have hHeld := hHeld2
          clear hHeld2
          (try simp only [Act.put, List.setIfInBounds_toArray, List.set_cons_zero, List.set_cons_succ])
          refine wpAnyH_take (i := 4) (oi := { dst := some 76, op := Go.Op.move (Go.Operand.tmp 75), type := 4, pos := "law.go:42", after := #[{ on := 3, ground := Go.Ground.data }, { on := 3, ground := Go.Ground.chain }], guard := none }) (v := ?_) rfl (by kernel_rfl) (by kernel_rfl) (by kernel_rfl) (fun _ _ _ h => h) (Or.inl ⟨by rfl, ?hy4⟩) (by assumption) ?_
          case hy4 => intro w_ hSw; (try dsimp only at hSw); go_simp; all_goals (with_reducible rfl)
          (try simp only [Act.put, List.setIfInBounds_toArray, List.set_cons_zero, List.set_cons_succ])
          refine wpAnyH_take (i := 5) (oi := { dst := some 77, op := Go.Op.move (Go.Operand.tmp 0), type := 22, pos := "law.go:42", after := #[{ on := 4, ground := Go.Ground.guard }], guard := some (4, true) }) (v := ?_) rfl (by kernel_rfl) (by kernel_rfl) (by kernel_rfl) (fun _ _ _ h => h) (Or.inl ⟨by rfl, ?hy5⟩) (by assumption) ?_
          case hy5 => intro w_ hSw; (try dsimp only at hSw); go_simp; all_goals (with_reducible rfl)
          (try simp only [Act.put, List.setIfInBounds_toArray, List.set_cons_zero, List.set_cons_succ])
          refine wpAnyH_take (i := 6) (oi := { dst := some 78, op := Go.Op.move (Go.Operand.tmp 1), type := 3, pos := "law.go:42", after := #[{ on := 4, ground := Go.Ground.guard }], guard := some (4, true) }) (v := ?_) rfl (by kernel_rfl) (by kernel_rfl) (by kernel_rfl) (fun _ _ _ h => h) (Or.inl ⟨by rfl, ?hy6⟩) (by assumption) ?_
          case hy6 => intro w_ hSw; (try dsimp only at hSw); go_simp; all_goals (with_reducible rfl)
          (try simp only [Act.put, List.setIfInBounds_toArray, List.set_cons_zero, List.set_cons_succ])
          refine wpAnyH_take (i := 8) (oi := { dst := some 80, op := Go.Op.move (Go.Operand.tmp 6), type := 4, pos := "law.go:42", after := #[{ on := 4, ground := Go.Ground.guard }], guard := some (4, true) }) (v := ?_) rfl (by kernel_rfl) (by kernel_rfl) (by kernel_rfl) (fun _ _ _ h => h) (Or.inl ⟨by rfl, ?hy8⟩) (by assumption) ?_
          case hy8 => intro w_ hSw; (try dsimp only at hSw); go_simp; all_goals (with_reducible rfl)
          (try simp only [Act.put, List.setIfInBounds_toArray, List.set_cons_zero, List.set_cons_succ])
          refine wpAnyH_ready (rs := [7]) (by kernel_rfl) (by simp) ?_
          refine AllReadyH.cons (o := { dst := some 79, op := Go.Op.call { callee := Go.Callee.value (Go.Operand.func 14), args := #[Go.Operand.tmp 77, Go.Operand.tmp 78], argTypes := #[22, 3] }, type := 4, pos := "law.go:42", after := #[{ on := 5, ground := Go.Ground.data }, { on := 6, ground := Go.Ground.data }, { on := 4, ground := Go.Ground.chain }, { on := 4, ground := Go.Ground.guard }], guard := some (4, true) }) rfl (fun K hK => ?_) AllReadyH.nil
          go_simp
          go_at_call 14
          (refine (has_calls m hm i _).mono ?_; rintro e wC ⟨rfl, nC, hwC⟩; have n_ : Aside0 (Below W.heap.size W wC) := ⟨HBY.out.trans ((below_of_drew hwC).mono HBY.out.size)⟩; clear hwC HBY; have HBY := n_; clear n_)
          (try go_wp2_with fail)
          refine hK.out _ _ (by (try dsimp only); exact (box_below bLr (hBW'.trans (HBY.out.mono hBW'.size)) bLr.lt).cell) (fun hHeld2 => ?_)
          clear hK K hHeld
          have hHeld := hHeld2
          clear hHeld2
          (try simp only [Act.put, List.setIfInBounds_toArray, List.set_cons_zero, List.set_cons_succ])
          have hq1 : (hs m i == hs m i) = true := by simp
          refine wpAnyH_take (i := 9) (oi := { dst := some 81, op := Go.Op.binOp Go.BinOp.eql 4 (Go.Operand.tmp 79) (Go.Operand.tmp 80) 4, type := 4, pos := "law.go:42", after := #[{ on := 7, ground := Go.Ground.data }, { on := 8, ground := Go.Ground.data }, { on := 4, ground := Go.Ground.guard }], guard := some (4, true) }) (v := ?_) rfl (by kernel_rfl) (by kernel_rfl) (by kernel_rfl) (fun _ _ _ h => h) (Or.inl ⟨by rfl, ?hy9⟩) (by assumption) ?_
          case hy9 => intro w_ hSw; (try dsimp only at hSw); go_simp; all_goals (with_reducible rfl)
          (try simp only [Act.put, List.setIfInBounds_toArray, List.set_cons_zero, List.set_cons_succ])
          refine wpAnyH_take (i := 10) (oi := { dst := some 82, op := Go.Op.pick (Go.Operand.tmp 76) (Go.Operand.tmp 81) (Go.Operand.const (Go.Value.bool false)), type := 4, pos := "law.go:42", after := #[{ on := 4, ground := Go.Ground.data }, { on := 9, ground := Go.Ground.data }], guard := none }) (v := ?_) rfl (by kernel_rfl) (by kernel_rfl) (by kernel_rfl) (fun _ _ _ h => h) (Or.inl ⟨by rfl, ?hy10⟩) (by assumption) ?_
          case hy10 => intro w_ hSw; (try dsimp only at hSw); go_simp; all_goals (with_reducible rfl)
          (try simp only [Act.put, List.setIfInBounds_toArray, List.set_cons_zero, List.set_cons_succ])
          refine wpAnyH_take (i := 11) (oi := { dst := some 83, op := Go.Op.move (Go.Operand.tmp 82), type := 4, pos := "law.go:42", after := #[{ on := 10, ground := Go.Ground.data }, { on := 7, ground := Go.Ground.chain }], guard := none }) (v := ?_) rfl (by kernel_rfl) (by kernel_rfl) (by kernel_rfl) (fun _ _ _ h => h) (Or.inl ⟨by rfl, ?hy11⟩) (by assumption) ?_
          case hy11 => intro w_ hSw; (try dsimp only at hSw); go_simp; all_goals (with_reducible rfl)
          (try simp only [Act.put, List.setIfInBounds_toArray, List.set_cons_zero, List.set_cons_succ])
          refine wpAnyH_take (i := 12) (oi := { dst := some 84, op := Go.Op.move (Go.Operand.tmp 0), type := 22, pos := "law.go:42", after := #[{ on := 11, ground := Go.Ground.guard }], guard := some (11, true) }) (v := ?_) rfl (by kernel_rfl) (by kernel_rfl) (by kernel_rfl) (fun _ _ _ h => h) (Or.inl ⟨by rfl, ?hy12⟩) (by assumption) ?_
          case hy12 => intro w_ hSw; (try dsimp only at hSw); go_simp; all_goals (with_reducible rfl)
          (try simp only [Act.put, List.setIfInBounds_toArray, List.set_cons_zero, List.set_cons_succ])
          refine wpAnyH_take (i := 14) (oi := { dst := some 86, op := Go.Op.load 23 (Go.Operand.tmp 5), type := 23, pos := "law.go:42", after := #[{ on := 11, ground := Go.Ground.guard }], guard := some (11, true) }) (v := ?_) rfl (by kernel_rfl) (by kernel_rfl) (by kernel_rfl) (fun _ _ _ h => h) (Or.inl ⟨by rfl, ?hy14⟩) (by assumption) ?_
          case hy14 => intro w_ hSw; (try dsimp only at hSw); go_simp; all_goals (with_reducible rfl)
          (try simp only [Act.put, List.setIfInBounds_toArray, List.set_cons_zero, List.set_cons_succ])
          refine wpAnyH_take (i := 15) (oi := { dst := some 87, op := Go.Op.call { callee := Go.Callee.builtin Go.Builtin.len, args := #[Go.Operand.tmp 86], argTypes := #[23] }, type := 3, pos := "law.go:42", after := #[{ on := 14, ground := Go.Ground.data }, { on := 11, ground := Go.Ground.guard }], guard := some (11, true) }) (v := ?_) rfl (by kernel_rfl) (by kernel_rfl) (by kernel_rfl) (fun _ _ _ h => h) (Or.inl ⟨by rfl, ?hy15⟩) (by assumption) ?_
          case hy15 => intro w_ hSw; (try dsimp only at hSw); go_simp; all_goals (with_reducible rfl)
          (try simp only [Act.put, List.setIfInBounds_toArray, List.set_cons_zero, List.set_cons_succ])
          refine wpAnyH_ready (rs := [13]) (by kernel_rfl) (by simp) ?_
          refine AllReadyH.cons (o := { dst := some 85, op := Go.Op.call { callee := Go.Callee.value (Go.Operand.func 15), args := #[Go.Operand.tmp 84], argTypes := #[22] }, type := 3, pos := "law.go:42", after := #[{ on := 12, ground := Go.Ground.data }, { on := 11, ground := Go.Ground.chain }, { on := 11, ground := Go.Ground.guard }], guard := some (11, true) }) rfl (fun K hK => ?_) AllReadyH.nil
          go_simp
          go_at_call 15
          (refine (count_calls m hm _).mono ?_; rintro e wD ⟨rfl, nD, hwD⟩; have n_ : Aside0 (Below W.heap.size W wD) := ⟨HBY.out.trans ((below_of_drew hwD).mono HBY.out.size)⟩; clear hwD HBY; have HBY := n_; clear n_)
          (try go_wp2_with fail)
          refine hK.out _ _ (by (try dsimp only); exact (box_below bLr (hBW'.trans (HBY.out.mono hBW'.size)) bLr.lt).cell) (fun hHeld2 => ?_)
          clear hK K hHeld
          have hHeld := hHeld2
          clear hHeld2
          (try simp only [Act.put, List.setIfInBounds_toArray, List.set_cons_zero, List.set_cons_succ])
          have hq2 : ((((bl m).length : Nat) : Int) == (((ints m).length : Nat) : Int)) = true := by simp [ints]
          refine wpAnyH_take (i := 16) (oi := { dst := some 88, op := Go.Op.binOp Go.BinOp.eql 3 (Go.Operand.tmp 85) (Go.Operand.tmp 87) 3, type := 4, pos := "law.go:42", after := #[{ on := 13, ground := Go.Ground.data }, { on := 15, ground := Go.Ground.data }, { on := 11, ground := Go.Ground.guard }], guard := some (11, true) }) (v := ?_) rfl (by kernel_rfl) (by kernel_rfl) (by kernel_rfl) (fun _ _ _ h => h) (Or.inl ⟨by rfl, ?hy16⟩) (by assumption) ?_
          case hy16 => intro w_ hSw; (try dsimp only at hSw); go_simp; all_goals (with_reducible rfl)
          (try simp only [Act.put, List.setIfInBounds_toArray, List.set_cons_zero, List.set_cons_succ])
          refine wpAnyH_take (i := 17) (oi := { dst := some 89, op := Go.Op.pick (Go.Operand.tmp 83) (Go.Operand.tmp 88) (Go.Operand.const (Go.Value.bool false)), type := 4, pos := "law.go:42", after := #[{ on := 11, ground := Go.Ground.data }, { on := 16, ground := Go.Ground.data }], guard := none }) (v := ?_) rfl (by kernel_rfl) (by kernel_rfl) (by kernel_rfl) (fun _ _ _ h => h) (Or.inl ⟨by rfl, ?hy17⟩) (by assumption) ?_
          case hy17 => intro w_ hSw; (try dsimp only at hSw); go_simp; all_goals (with_reducible rfl)
          (try simp only [Act.put, List.setIfInBounds_toArray, List.set_cons_zero, List.set_cons_succ])
          refine wpAnyH_take (i := 18) (oi := { dst := some 90, op := Go.Op.move (Go.Operand.tmp 89), type := 4, pos := "law.go:42", after := #[{ on := 17, ground := Go.Ground.data }, { on := 13, ground := Go.Ground.chain }], guard := none }) (v := ?_) rfl (by kernel_rfl) (by kernel_rfl) (by kernel_rfl) (fun _ _ _ h => h) (Or.inl ⟨by rfl, ?hy18⟩) (by assumption) ?_
          case hy18 => intro w_ hSw; (try dsimp only at hSw); go_simp; all_goals (with_reducible rfl)
          (try simp only [Act.put, List.setIfInBounds_toArray, List.set_cons_zero, List.set_cons_succ])
          refine wpAnyH_take (i := 19) (oi := { dst := some 91, op := Go.Op.move (Go.Operand.tmp 0), type := 22, pos := "law.go:42", after := #[{ on := 18, ground := Go.Ground.guard }], guard := some (18, true) }) (v := ?_) rfl (by kernel_rfl) (by kernel_rfl) (by kernel_rfl) (fun _ _ _ h => h) (Or.inl ⟨by rfl, ?hy19⟩) (by assumption) ?_
          case hy19 => intro w_ hSw; (try dsimp only at hSw); go_simp; all_goals (with_reducible rfl)
          (try simp only [Act.put, List.setIfInBounds_toArray, List.set_cons_zero, List.set_cons_succ])
          refine wpAnyH_take (i := 20) (oi := { dst := some 92, op := Go.Op.move (Go.Operand.tmp 1), type := 3, pos := "law.go:42", after := #[{ on := 18, ground := Go.Ground.guard }], guard := some (18, true) }) (v := ?_) rfl (by kernel_rfl) (by kernel_rfl) (by kernel_rfl) (fun _ _ _ h => h) (Or.inl ⟨by rfl, ?hy20⟩) (by assumption) ?_
          case hy20 => intro w_ hSw; (try dsimp only at hSw); go_simp; all_goals (with_reducible rfl)
          (try simp only [Act.put, List.setIfInBounds_toArray, List.set_cons_zero, List.set_cons_succ])
          refine wpAnyH_take (i := 22) (oi := { dst := some 94, op := Go.Op.move (Go.Operand.tmp 7), type := 23, pos := "law.go:42", after := #[{ on := 18, ground := Go.Ground.guard }], guard := some (18, true) }) (v := ?_) rfl (by kernel_rfl) (by kernel_rfl) (by kernel_rfl) (fun _ _ _ h => h) (Or.inl ⟨by rfl, ?hy22⟩) (by assumption) ?_
          case hy22 => intro w_ hSw; (try dsimp only at hSw); go_simp; all_goals (with_reducible rfl)
          (try simp only [Act.put, List.setIfInBounds_toArray, List.set_cons_zero, List.set_cons_succ])
          refine wpAnyH_ready (rs := [21]) (by kernel_rfl) (by simp) ?_
          refine AllReadyH.cons (o := { dst := some 93, op := Go.Op.call { callee := Go.Callee.value (Go.Operand.func 16), args := #[Go.Operand.tmp 91, Go.Operand.tmp 92], argTypes := #[22, 3] }, type := 22, pos := "law.go:42", after := #[{ on := 19, ground := Go.Ground.data }, { on := 20, ground := Go.Ground.data }, { on := 18, ground := Go.Ground.chain }, { on := 18, ground := Go.Ground.guard }], guard := some (18, true) }) rfl (fun K hK => ?_) AllReadyH.nil
          go_simp
          go_at_call 16
          (refine (with_calls m hm i _).mono ?_; rintro e wF ⟨rfl, nF, hwF⟩; have n_ : Aside0 (Below W.heap.size W wF) := ⟨HBY.out.trans ((below_of_drew hwF).mono HBY.out.size)⟩; clear hwF HBY; have HBY := n_; clear n_)
          (try go_wp2_with fail)
          refine hK.out _ _ (by (try dsimp only); exact (box_below bLr (hBW'.trans (HBY.out.mono hBW'.size)) bLr.lt).cell) (fun hHeld2 => ?_)
          clear hK K hHeld
          have hHeld := hHeld2
          clear hHeld2
          (try simp only [Act.put, List.setIfInBounds_toArray, List.set_cons_zero, List.set_cons_succ])
          refine wpAnyH_ready (rs := [23]) (by kernel_rfl) (by simp) ?_
          refine AllReadyH.cons (o := { dst := some 95, op := Go.Op.call { callee := Go.Callee.value (Go.Operand.func 8), args := #[Go.Operand.tmp 94], argTypes := #[23] }, type := 22, pos := "law.go:42", after := #[{ on := 22, ground := Go.Ground.data }, { on := 21, ground := Go.Ground.chain }, { on := 18, ground := Go.Ground.guard }], guard := some (18, true) }) rfl (fun K hK => ?_) AllReadyH.nil
          go_simp
          go_at_call 8
          (refine (refOf_calls (i :: ints m) (by simp; omega) A7 c7 _ (Kd.C_below hC7r (hBW'.trans (HBY.out.mono hBW'.size))) hcl7).mono ?_; rintro e wG ⟨rfl, nG, hwG⟩; have n_ : Aside0 (Below W.heap.size W wG) := ⟨HBY.out.trans ((below_of_drew hwG).mono HBY.out.size)⟩; clear hwG HBY; have HBY := n_; clear n_)
          (try go_wp2_with fail)
          refine hK.out _ _ (by (try dsimp only); exact (box_below bLr (hBW'.trans (HBY.out.mono hBW'.size)) bLr.lt).cell) (fun hHeld2 => ?_)
          clear hK K hHeld
          have hHeld := hHeld2
          clear hHeld2
          (try simp only [Act.put, List.setIfInBounds_toArray, List.set_cons_zero, List.set_cons_succ])
          have hq3 : (((m ||| sb i : Nat) : Int) == ((U (i :: ints m) : Nat) : Int)) = true := by rw [U_with m hm i]; simp
          refine wpAnyH_take (i := 24) (oi := { dst := some 96, op := Go.Op.binOp Go.BinOp.eql 22 (Go.Operand.tmp 93) (Go.Operand.tmp 95) 22, type := 4, pos := "law.go:42", after := #[{ on := 21, ground := Go.Ground.data }, { on := 23, ground := Go.Ground.data }, { on := 18, ground := Go.Ground.guard }], guard := some (18, true) }) (v := ?_) rfl (by kernel_rfl) (by kernel_rfl) (by kernel_rfl) (fun _ _ _ h => h) (Or.inl ⟨by rfl, ?hy24⟩) (by assumption) ?_
          case hy24 => intro w_ hSw; (try dsimp only at hSw); go_simp; all_goals (with_reducible rfl)
          (try simp only [Act.put, List.setIfInBounds_toArray, List.set_cons_zero, List.set_cons_succ])
          refine wpAnyH_take (i := 25) (oi := { dst := some 97, op := Go.Op.pick (Go.Operand.tmp 90) (Go.Operand.tmp 96) (Go.Operand.const (Go.Value.bool false)), type := 4, pos := "law.go:42", after := #[{ on := 18, ground := Go.Ground.data }, { on := 24, ground := Go.Ground.data }], guard := none }) (v := ?_) rfl (by kernel_rfl) (by kernel_rfl) (by kernel_rfl) (fun _ _ _ h => h) (Or.inl ⟨by rfl, ?hy25⟩) (by assumption) ?_
          case hy25 => intro w_ hSw; (try dsimp only at hSw); go_simp; all_goals (with_reducible rfl)
          (try simp only [Act.put, List.setIfInBounds_toArray, List.set_cons_zero, List.set_cons_succ])
          refine wpAnyH_take (i := 26) (oi := { dst := some 98, op := Go.Op.move (Go.Operand.tmp 97), type := 4, pos := "law.go:42", after := #[{ on := 25, ground := Go.Ground.data }, { on := 23, ground := Go.Ground.chain }], guard := none }) (v := ?_) rfl (by kernel_rfl) (by kernel_rfl) (by kernel_rfl) (fun _ _ _ h => h) (Or.inl ⟨by rfl, ?hy26⟩) (by assumption) ?_
          case hy26 => intro w_ hSw; (try dsimp only at hSw); go_simp; all_goals (with_reducible rfl)
          (try simp only [Act.put, List.setIfInBounds_toArray, List.set_cons_zero, List.set_cons_succ])
          refine wpAnyH_take (i := 27) (oi := { dst := some 99, op := Go.Op.move (Go.Operand.tmp 0), type := 22, pos := "law.go:42", after := #[{ on := 26, ground := Go.Ground.guard }], guard := some (26, true) }) (v := ?_) rfl (by kernel_rfl) (by kernel_rfl) (by kernel_rfl) (fun _ _ _ h => h) (Or.inl ⟨by rfl, ?hy27⟩) (by assumption) ?_
          case hy27 => intro w_ hSw; (try dsimp only at hSw); go_simp; all_goals (with_reducible rfl)
          (try simp only [Act.put, List.setIfInBounds_toArray, List.set_cons_zero, List.set_cons_succ])
          refine wpAnyH_take (i := 28) (oi := { dst := some 100, op := Go.Op.move (Go.Operand.tmp 1), type := 3, pos := "law.go:42", after := #[{ on := 26, ground := Go.Ground.guard }], guard := some (26, true) }) (v := ?_) rfl (by kernel_rfl) (by kernel_rfl) (by kernel_rfl) (fun _ _ _ h => h) (Or.inl ⟨by rfl, ?hy28⟩) (by assumption) ?_
          case hy28 => intro w_ hSw; (try dsimp only at hSw); go_simp; all_goals (with_reducible rfl)
          (try simp only [Act.put, List.setIfInBounds_toArray, List.set_cons_zero, List.set_cons_succ])
          refine wpAnyH_take (i := 30) (oi := { dst := some 102, op := Go.Op.move (Go.Operand.tmp 8), type := 23, pos := "law.go:42", after := #[{ on := 26, ground := Go.Ground.guard }], guard := some (26, true) }) (v := ?_) rfl (by kernel_rfl) (by kernel_rfl) (by kernel_rfl) (fun _ _ _ h => h) (Or.inl ⟨by rfl, ?hy30⟩) (by assumption) ?_
          case hy30 => intro w_ hSw; (try dsimp only at hSw); go_simp; all_goals (with_reducible rfl)
          (try simp only [Act.put, List.setIfInBounds_toArray, List.set_cons_zero, List.set_cons_succ])
          refine wpAnyH_ready (rs := [29]) (by kernel_rfl) (by simp) ?_
          refine AllReadyH.cons (o := { dst := some 101, op := Go.Op.call { callee := Go.Callee.value (Go.Operand.func 17), args := #[Go.Operand.tmp 99, Go.Operand.tmp 100], argTypes := #[22, 3] }, type := 22, pos := "law.go:42", after := #[{ on := 27, ground := Go.Ground.data }, { on := 28, ground := Go.Ground.data }, { on := 26, ground := Go.Ground.chain }, { on := 26, ground := Go.Ground.guard }], guard := some (26, true) }) rfl (fun K hK => ?_) AllReadyH.nil
          go_simp
          go_at_call 17
          (refine (without_calls m hm i _).mono ?_; rintro e wH ⟨rfl, nH, hwH⟩; have n_ : Aside0 (Below W.heap.size W wH) := ⟨HBY.out.trans ((below_of_drew hwH).mono HBY.out.size)⟩; clear hwH HBY; have HBY := n_; clear n_)
          (try go_wp2_with fail)
          refine hK.out _ _ (by (try dsimp only); exact (box_below bLr (hBW'.trans (HBY.out.mono hBW'.size)) bLr.lt).cell) (fun hHeld2 => ?_)
          clear hK K hHeld
          have hHeld := hHeld2
          clear hHeld2
          (try simp only [Act.put, List.setIfInBounds_toArray, List.set_cons_zero, List.set_cons_succ])
          refine wpAnyH_ready (rs := [31]) (by kernel_rfl) (by simp) ?_
          refine AllReadyH.cons (o := { dst := some 103, op := Go.Op.call { callee := Go.Callee.value (Go.Operand.func 8), args := #[Go.Operand.tmp 102], argTypes := #[23] }, type := 22, pos := "law.go:42", after := #[{ on := 30, ground := Go.Ground.data }, { on := 29, ground := Go.Ground.chain }, { on := 26, ground := Go.Ground.guard }], guard := some (26, true) }) rfl (fun K hK => ?_) AllReadyH.nil
          go_simp
          go_at_call 8
          (refine (refOf_calls ((ints m).filter (fun x => !decide (x = i))) hfl8 A8 c8 _ (Kd.C_below HC8.out (hBW'.trans (HBY.out.mono hBW'.size))) hcl8).mono ?_; rintro e wI ⟨rfl, nI, hwI⟩; have n_ : Aside0 (Below W.heap.size W wI) := ⟨HBY.out.trans ((below_of_drew hwI).mono HBY.out.size)⟩; clear hwI HBY; have HBY := n_; clear n_)
          (try go_wp2_with fail)
          refine hK.out _ _ (by (try dsimp only); exact (box_below bLr (hBW'.trans (HBY.out.mono hBW'.size)) bLr.lt).cell) (fun hHeld2 => ?_)
          clear hK K hHeld
          have hHeld := hHeld2
          clear hHeld2
          (try simp only [Act.put, List.setIfInBounds_toArray, List.set_cons_zero, List.set_cons_succ])
          have hq4 : (((m &&& (18446744073709551615 - sb i) : Nat) : Int) == ((U ((ints m).filter (fun x => !decide (x = i))) : Nat) : Int)) = true := by rw [U_without m hm i]; simp
          refine wpAnyH_take (i := 32) (oi := { dst := some 104, op := Go.Op.binOp Go.BinOp.eql 22 (Go.Operand.tmp 101) (Go.Operand.tmp 103) 22, type := 4, pos := "law.go:42", after := #[{ on := 29, ground := Go.Ground.data }, { on := 31, ground := Go.Ground.data }, { on := 26, ground := Go.Ground.guard }], guard := some (26, true) }) (v := ?_) rfl (by kernel_rfl) (by kernel_rfl) (by kernel_rfl) (fun _ _ _ h => h) (Or.inl ⟨by rfl, ?hy32⟩) (by assumption) ?_
          case hy32 => intro w_ hSw; (try dsimp only at hSw); go_simp; all_goals (with_reducible rfl)
          (try simp only [Act.put, List.setIfInBounds_toArray, List.set_cons_zero, List.set_cons_succ])
          refine wpAnyH_take (i := 33) (oi := { dst := some 105, op := Go.Op.pick (Go.Operand.tmp 98) (Go.Operand.tmp 104) (Go.Operand.const (Go.Value.bool false)), type := 4, pos := "law.go:42", after := #[{ on := 26, ground := Go.Ground.data }, { on := 32, ground := Go.Ground.data }], guard := none }) (v := ?_) rfl (by kernel_rfl) (by kernel_rfl) (by kernel_rfl) (fun _ _ _ h => h) (Or.inl ⟨by rfl, ?hy33⟩) (by assumption) ?_
          case hy33 => intro w_ hSw; (try dsimp only at hSw); go_simp; all_goals (with_reducible rfl)
          (try simp only [Act.put, List.setIfInBounds_toArray, List.set_cons_zero, List.set_cons_succ])
          refine wpAnyH_take (i := 34) (oi := { dst := some 106, op := Go.Op.move (Go.Operand.tmp 105), type := 4, pos := "law.go:42", after := #[{ on := 33, ground := Go.Ground.data }, { on := 31, ground := Go.Ground.chain }], guard := none }) (v := ?_) rfl (by kernel_rfl) (by kernel_rfl) (by kernel_rfl) (fun _ _ _ h => h) (Or.inl ⟨by rfl, ?hy34⟩) (by assumption) ?_
          case hy34 => intro w_ hSw; (try dsimp only at hSw); go_simp; all_goals (with_reducible rfl)
          (try simp only [Act.put, List.setIfInBounds_toArray, List.set_cons_zero, List.set_cons_succ])
          refine wpAnyH_ready (rs := [35]) (by kernel_rfl) (by simp) ?_
          refine AllReadyH.cons (o := { dst := some 107, op := Go.Op.call { callee := Go.Callee.value (Go.Operand.func 5), args := #[], argTypes := #[] }, type := 4, pos := "law.go:42", after := #[{ on := 34, ground := Go.Ground.chain }, { on := 34, ground := Go.Ground.guard }], guard := some (34, true) }) rfl (fun K hK => ?_) AllReadyH.nil
          go_simp
          go_at_call 5
          (refine (awake_calls _ ((hT.below hBr h0).below (hBW'.trans (HBY.out.mono hBW'.size)) h0r) (Nat.lt_of_lt_of_le h0r (hBW'.trans (HBY.out.mono hBW'.size)).size)).mono ?_; rintro e wJ ⟨rfl, hBJ⟩; have n_ : Aside0 (Below W.heap.size W wJ) := ⟨HBY.out.trans (hBJ.mono HBY.out.size)⟩; clear HBY hBJ; have HBY := n_; clear n_)
          (try go_wp2_with fail)
          refine hK.out _ _ (by (try dsimp only); exact (box_below bLr (hBW'.trans (HBY.out.mono hBW'.size)) bLr.lt).cell) (fun hHeld2 => ?_)
          clear hK K hHeld
          have hHeld := hHeld2
          clear hHeld2
          (try simp only [Act.put, List.setIfInBounds_toArray, List.set_cons_zero, List.set_cons_succ])
          refine wpAnyH_take (i := 36) (oi := { dst := some 108, op := Go.Op.pick (Go.Operand.tmp 106) (Go.Operand.tmp 107) (Go.Operand.const (Go.Value.bool false)), type := 4, pos := "law.go:42", after := #[{ on := 34, ground := Go.Ground.data }, { on := 35, ground := Go.Ground.data }], guard := none }) (v := ?_) rfl (by kernel_rfl) (by kernel_rfl) (by kernel_rfl) (fun _ _ _ h => h) (Or.inl ⟨by rfl, ?hy36⟩) (by assumption) ?_
          case hy36 => intro w_ hSw; (try dsimp only at hSw); go_simp; all_goals (with_reducible rfl)
          (try simp only [Act.put, List.setIfInBounds_toArray, List.set_cons_zero, List.set_cons_succ])
          have bOf := box_below bOr (hBW'.trans (HBY.out.mono hBW'.size)) bOr.lt
          have hfO := bOf.frozen
          have hcO := bOf.cell
          refine wpAnyH_ready (rs := [37]) (by kernel_rfl) (by simp) ?_
          refine AllReadyH.cons (o := { dst := none, op := Go.Op.store 4 (Go.Operand.tmp 4) (Go.Operand.tmp 108), type := 0, pos := "law.go:42", after := #[{ on := 36, ground := Go.Ground.data }, { on := 35, ground := Go.Ground.chain }, { on := 0, ground := Go.Ground.phase }, { on := 1, ground := Go.Ground.phase }, { on := 2, ground := Go.Ground.phase }, { on := 3, ground := Go.Ground.phase }, { on := 4, ground := Go.Ground.phase }, { on := 5, ground := Go.Ground.phase }, { on := 6, ground := Go.Ground.phase }, { on := 7, ground := Go.Ground.phase }, { on := 8, ground := Go.Ground.phase }, { on := 9, ground := Go.Ground.phase }, { on := 10, ground := Go.Ground.phase }, { on := 11, ground := Go.Ground.phase }, { on := 12, ground := Go.Ground.phase }, { on := 13, ground := Go.Ground.phase }, { on := 14, ground := Go.Ground.phase }, { on := 15, ground := Go.Ground.phase }, { on := 16, ground := Go.Ground.phase }, { on := 17, ground := Go.Ground.phase }, { on := 18, ground := Go.Ground.phase }, { on := 19, ground := Go.Ground.phase }, { on := 20, ground := Go.Ground.phase }, { on := 21, ground := Go.Ground.phase }, { on := 22, ground := Go.Ground.phase }, { on := 23, ground := Go.Ground.phase }, { on := 24, ground := Go.Ground.phase }, { on := 25, ground := Go.Ground.phase }, { on := 26, ground := Go.Ground.phase }, { on := 27, ground := Go.Ground.phase }, { on := 28, ground := Go.Ground.phase }, { on := 29, ground := Go.Ground.phase }, { on := 30, ground := Go.Ground.phase }, { on := 31, ground := Go.Ground.phase }, { on := 32, ground := Go.Ground.phase }, { on := 33, ground := Go.Ground.phase }, { on := 34, ground := Go.Ground.phase }, { on := 35, ground := Go.Ground.phase }, { on := 36, ground := Go.Ground.phase }], guard := none }) rfl (fun K hK => ?_) AllReadyH.nil
          go_simp
          refine hK.out _ _ (by (try dsimp only); exact ((box_below bLr (hBW'.trans (HBY.out.mono hBW'.size)) bLr.lt).other (Nat.ne_of_gt h5) _).cell) (fun hHeld2 => ?_)
          clear hK K hHeld
          have hHeld := hHeld2
          clear hHeld2
          (try simp only [Act.put, List.setIfInBounds_toArray, List.set_cons_zero, List.set_cons_succ])
          refine wpAnyH_done (by kernel_rfl) ?_ _
          clear hHeld
          dsimp only [noPanic]
          go_wp2
          have hsetO := bOf.set (.bool true)
          have hDlt : D < W.heap.size := (Array.getElem?_eq_some_iff.1 HKD.out).1
          have hDne : D ≠ w.heap.size := by have h1 := HD.out; have h2 := hBr.size; omega
          have hKJ := (Below.heap_setCell wJ ⟨w.heap.size, 0, none⟩ (.bool true) D hDne).trans ((HBY.out.block D hDlt).trans HKD.out)
          have hBJ := (hBr.trans ((hBW'.trans (HBY.out.mono hBW'.size)).mono hBr.size)).setCell (p := ⟨w.heap.size, 0, none⟩) (Nat.le_refl _) (.bool true)
          refine ⟨by simp, .inl ⟨_, _, rfl, run_takeDeferred hKJ, ?_⟩⟩
          exact ⟨_, results_box rfl ((World.putObj_heap_other (Ne.symm hDne)).trans hsetO), rfl, hBJ.trans (belowK_b (w := w) (Nat.le_refl _) _ D _ _ (by have h1 := HD.out; have h2 := hBr.size; omega) hKJ rfl rfl)⟩
        | true =>
          go_wp2_with fail
          have HBY : Aside0 (Below W.heap.size W W.drew) := ⟨below_drew (Below.refl _ _)⟩
          refine Code.wp_mono (noPanic_le _) ?_
          refine wp_region_held_drew (S := fun w' => w'.cell? ⟨B5, 0, none⟩ = some (.slice A1 (ints m).length c1)) (by kernel_rfl) (by exact (box_below bLr (hBW'.trans (HBY.out.mono hBW'.size)) bLr.lt).cell) (fun hHeld => ?_)
          refine wpAnyH_take (i := 0) (oi := { dst := some 72, op := Go.Op.move (Go.Operand.tmp 0), type := 22, pos := "law.go:42", after := #[], guard := none }) (v := ?_) rfl (by kernel_rfl) (by kernel_rfl) (by kernel_rfl) (fun _ _ _ h => h) (Or.inl ⟨by rfl, ?hy0⟩) (by assumption) ?_
          case hy0 => intro w_ hSw; (try dsimp only at hSw); go_simp; all_goals (with_reducible rfl)
          (try simp only [Act.put, List.setIfInBounds_toArray, List.set_cons_zero, List.set_cons_succ])
          refine wpAnyH_take (i := 2) (oi := { dst := some 74, op := Go.Op.load 23 (Go.Operand.tmp 5), type := 23, pos := "law.go:42", after := #[], guard := none }) (v := ?_) rfl (by kernel_rfl) (by kernel_rfl) (by kernel_rfl) (fun _ _ _ h => h) (Or.inl ⟨by rfl, ?hy2⟩) (by assumption) ?_
          case hy2 => intro w_ hSw; (try dsimp only at hSw); go_simp; all_goals (with_reducible rfl)
          (try simp only [Act.put, List.setIfInBounds_toArray, List.set_cons_zero, List.set_cons_succ])
          refine wpAnyH_ready (rs := [1]) (by kernel_rfl) (by simp) ?_
          refine AllReadyH.cons (o := { dst := some 73, op := Go.Op.call { callee := Go.Callee.value (Go.Operand.func 7), args := #[Go.Operand.tmp 72], argTypes := #[22] }, type := 23, pos := "law.go:42", after := #[{ on := 0, ground := Go.Ground.data }], guard := none }) rfl (fun K hK => ?_) AllReadyH.nil
          go_simp
          go_at_call 7
          (refine (list_calls m hm _ ((hT.below hBr h0).below (hBW'.trans (HBY.out.mono hBW'.size)) h0r) (Nat.lt_of_lt_of_le h0r (hBW'.trans (HBY.out.mono hBW'.size)).size)).mono ?_; rintro e wA ⟨vA, rfl, hRA, hBA⟩; obtain ⟨AA, cA, rfl, hcA, hCA⟩ := Kd.R_reads hRA; have n_ : Aside0 (Below W.heap.size W wA) := ⟨HBY.out.trans (hBA.mono HBY.out.size)⟩; clear HBY hRA hBA; have HBY := n_; clear n_; have HCA := Aside0.mk hCA; clear hCA)
          (try go_wp2_with fail)
          refine hK.out _ _ (by (try dsimp only); exact (box_below bLr (hBW'.trans (HBY.out.mono hBW'.size)) bLr.lt).cell) (fun hHeld2 => ?_)
          clear hK K hHeld
          have hHeld := hHeld2
          clear hHeld2
          (try simp only [Act.put, List.setIfInBounds_toArray, List.set_cons_zero, List.set_cons_succ])
          refine wpAnyH_ready (rs := [3]) (by kernel_rfl) (by simp) ?_
          refine AllReadyH.cons (o := { dst := some 75, op := Go.Op.call { callee := Go.Callee.value (Go.Operand.func 13), args := #[Go.Operand.tmp 73, Go.Operand.tmp 74], argTypes := #[23, 23] }, type := 4, pos := "law.go:42", after := #[{ on := 1, ground := Go.Ground.data }, { on := 2, ground := Go.Ground.data }, { on := 1, ground := Go.Ground.chain }], guard := none }) rfl (fun K hK => ?_) AllReadyH.nil
          go_simp
          go_at_call 13
          (refine (same_calls (ints m) hal AA A1 cA c1 wA HCA.out hcA (Kd.C_below hCr (hBW'.trans (HBY.out.mono hBW'.size))) hcl1).mono ?_; rintro e wB ⟨rfl, nB, hwB⟩; have n_ : Aside0 (Below W.heap.size W wB) := ⟨HBY.out.trans ((below_of_drew hwB).mono HBY.out.size)⟩; clear hwB HBY; have HBY := n_; clear n_)
          (try go_wp2_with fail)
          refine hK.out _ _ (by (try dsimp only); exact (box_below bLr (hBW'.trans (HBY.out.mono hBW'.size)) bLr.lt).cell) (fun hHeld2 => ?_)
          clear hK K hHeld
          have hHeld := hHeld2
          clear hHeld2
          (try simp only [Act.put, List.setIfInBounds_toArray, List.set_cons_zero, List.set_cons_succ])
          refine wpAnyH_take (i := 4) (oi := { dst := some 76, op := Go.Op.move (Go.Operand.tmp 75), type := 4, pos := "law.go:42", after := #[{ on := 3, ground := Go.Ground.data }, { on := 3, ground := Go.Ground.chain }], guard := none }) (v := ?_) rfl (by kernel_rfl) (by kernel_rfl) (by kernel_rfl) (fun _ _ _ h => h) (Or.inl ⟨by rfl, ?hy4⟩) (by assumption) ?_
          case hy4 => intro w_ hSw; (try dsimp only at hSw); go_simp; all_goals (with_reducible rfl)
          (try simp only [Act.put, List.setIfInBounds_toArray, List.set_cons_zero, List.set_cons_succ])
          refine wpAnyH_take (i := 5) (oi := { dst := some 77, op := Go.Op.move (Go.Operand.tmp 0), type := 22, pos := "law.go:42", after := #[{ on := 4, ground := Go.Ground.guard }], guard := some (4, true) }) (v := ?_) rfl (by kernel_rfl) (by kernel_rfl) (by kernel_rfl) (fun _ _ _ h => h) (Or.inl ⟨by rfl, ?hy5⟩) (by assumption) ?_
          case hy5 => intro w_ hSw; (try dsimp only at hSw); go_simp; all_goals (with_reducible rfl)
          (try simp only [Act.put, List.setIfInBounds_toArray, List.set_cons_zero, List.set_cons_succ])
          refine wpAnyH_take (i := 6) (oi := { dst := some 78, op := Go.Op.move (Go.Operand.tmp 1), type := 3, pos := "law.go:42", after := #[{ on := 4, ground := Go.Ground.guard }], guard := some (4, true) }) (v := ?_) rfl (by kernel_rfl) (by kernel_rfl) (by kernel_rfl) (fun _ _ _ h => h) (Or.inl ⟨by rfl, ?hy6⟩) (by assumption) ?_
          case hy6 => intro w_ hSw; (try dsimp only at hSw); go_simp; all_goals (with_reducible rfl)
          (try simp only [Act.put, List.setIfInBounds_toArray, List.set_cons_zero, List.set_cons_succ])
          refine wpAnyH_take (i := 8) (oi := { dst := some 80, op := Go.Op.move (Go.Operand.tmp 6), type := 4, pos := "law.go:42", after := #[{ on := 4, ground := Go.Ground.guard }], guard := some (4, true) }) (v := ?_) rfl (by kernel_rfl) (by kernel_rfl) (by kernel_rfl) (fun _ _ _ h => h) (Or.inl ⟨by rfl, ?hy8⟩) (by assumption) ?_
          case hy8 => intro w_ hSw; (try dsimp only at hSw); go_simp; all_goals (with_reducible rfl)
          (try simp only [Act.put, List.setIfInBounds_toArray, List.set_cons_zero, List.set_cons_succ])
          refine wpAnyH_ready (rs := [7]) (by kernel_rfl) (by simp) ?_
          refine AllReadyH.cons (o := { dst := some 79, op := Go.Op.call { callee := Go.Callee.value (Go.Operand.func 14), args := #[Go.Operand.tmp 77, Go.Operand.tmp 78], argTypes := #[22, 3] }, type := 4, pos := "law.go:42", after := #[{ on := 5, ground := Go.Ground.data }, { on := 6, ground := Go.Ground.data }, { on := 4, ground := Go.Ground.chain }, { on := 4, ground := Go.Ground.guard }], guard := some (4, true) }) rfl (fun K hK => ?_) AllReadyH.nil
          go_simp
          go_at_call 14
          (refine (has_calls m hm i _).mono ?_; rintro e wC ⟨rfl, nC, hwC⟩; have n_ : Aside0 (Below W.heap.size W wC) := ⟨HBY.out.trans ((below_of_drew hwC).mono HBY.out.size)⟩; clear hwC HBY; have HBY := n_; clear n_)
          (try go_wp2_with fail)
          refine hK.out _ _ (by (try dsimp only); exact (box_below bLr (hBW'.trans (HBY.out.mono hBW'.size)) bLr.lt).cell) (fun hHeld2 => ?_)
          clear hK K hHeld
          have hHeld := hHeld2
          clear hHeld2
          (try simp only [Act.put, List.setIfInBounds_toArray, List.set_cons_zero, List.set_cons_succ])
          have hq1 : (hs m i == hs m i) = true := by simp
          refine wpAnyH_take (i := 9) (oi := { dst := some 81, op := Go.Op.binOp Go.BinOp.eql 4 (Go.Operand.tmp 79) (Go.Operand.tmp 80) 4, type := 4, pos := "law.go:42", after := #[{ on := 7, ground := Go.Ground.data }, { on := 8, ground := Go.Ground.data }, { on := 4, ground := Go.Ground.guard }], guard := some (4, true) }) (v := ?_) rfl (by kernel_rfl) (by kernel_rfl) (by kernel_rfl) (fun _ _ _ h => h) (Or.inl ⟨by rfl, ?hy9⟩) (by assumption) ?_
          case hy9 => intro w_ hSw; (try dsimp only at hSw); go_simp; all_goals (with_reducible rfl)
          (try simp only [Act.put, List.setIfInBounds_toArray, List.set_cons_zero, List.set_cons_succ])
          refine wpAnyH_take (i := 10) (oi := { dst := some 82, op := Go.Op.pick (Go.Operand.tmp 76) (Go.Operand.tmp 81) (Go.Operand.const (Go.Value.bool false)), type := 4, pos := "law.go:42", after := #[{ on := 4, ground := Go.Ground.data }, { on := 9, ground := Go.Ground.data }], guard := none }) (v := ?_) rfl (by kernel_rfl) (by kernel_rfl) (by kernel_rfl) (fun _ _ _ h => h) (Or.inl ⟨by rfl, ?hy10⟩) (by assumption) ?_
          case hy10 => intro w_ hSw; (try dsimp only at hSw); go_simp; all_goals (with_reducible rfl)
          (try simp only [Act.put, List.setIfInBounds_toArray, List.set_cons_zero, List.set_cons_succ])
          refine wpAnyH_take (i := 11) (oi := { dst := some 83, op := Go.Op.move (Go.Operand.tmp 82), type := 4, pos := "law.go:42", after := #[{ on := 10, ground := Go.Ground.data }, { on := 7, ground := Go.Ground.chain }], guard := none }) (v := ?_) rfl (by kernel_rfl) (by kernel_rfl) (by kernel_rfl) (fun _ _ _ h => h) (Or.inl ⟨by rfl, ?hy11⟩) (by assumption) ?_
          case hy11 => intro w_ hSw; (try dsimp only at hSw); go_simp; all_goals (with_reducible rfl)
          (try simp only [Act.put, List.setIfInBounds_toArray, List.set_cons_zero, List.set_cons_succ])
          refine wpAnyH_take (i := 12) (oi := { dst := some 84, op := Go.Op.move (Go.Operand.tmp 0), type := 22, pos := "law.go:42", after := #[{ on := 11, ground := Go.Ground.guard }], guard := some (11, true) }) (v := ?_) rfl (by kernel_rfl) (by kernel_rfl) (by kernel_rfl) (fun _ _ _ h => h) (Or.inl ⟨by rfl, ?hy12⟩) (by assumption) ?_
          case hy12 => intro w_ hSw; (try dsimp only at hSw); go_simp; all_goals (with_reducible rfl)
          (try simp only [Act.put, List.setIfInBounds_toArray, List.set_cons_zero, List.set_cons_succ])
          refine wpAnyH_take (i := 14) (oi := { dst := some 86, op := Go.Op.load 23 (Go.Operand.tmp 5), type := 23, pos := "law.go:42", after := #[{ on := 11, ground := Go.Ground.guard }], guard := some (11, true) }) (v := ?_) rfl (by kernel_rfl) (by kernel_rfl) (by kernel_rfl) (fun _ _ _ h => h) (Or.inl ⟨by rfl, ?hy14⟩) (by assumption) ?_
          case hy14 => intro w_ hSw; (try dsimp only at hSw); go_simp; all_goals (with_reducible rfl)
          (try simp only [Act.put, List.setIfInBounds_toArray, List.set_cons_zero, List.set_cons_succ])
          refine wpAnyH_take (i := 15) (oi := { dst := some 87, op := Go.Op.call { callee := Go.Callee.builtin Go.Builtin.len, args := #[Go.Operand.tmp 86], argTypes := #[23] }, type := 3, pos := "law.go:42", after := #[{ on := 14, ground := Go.Ground.data }, { on := 11, ground := Go.Ground.guard }], guard := some (11, true) }) (v := ?_) rfl (by kernel_rfl) (by kernel_rfl) (by kernel_rfl) (fun _ _ _ h => h) (Or.inl ⟨by rfl, ?hy15⟩) (by assumption) ?_
          case hy15 => intro w_ hSw; (try dsimp only at hSw); go_simp; all_goals (with_reducible rfl)
          (try simp only [Act.put, List.setIfInBounds_toArray, List.set_cons_zero, List.set_cons_succ])
          refine wpAnyH_ready (rs := [13]) (by kernel_rfl) (by simp) ?_
          refine AllReadyH.cons (o := { dst := some 85, op := Go.Op.call { callee := Go.Callee.value (Go.Operand.func 15), args := #[Go.Operand.tmp 84], argTypes := #[22] }, type := 3, pos := "law.go:42", after := #[{ on := 12, ground := Go.Ground.data }, { on := 11, ground := Go.Ground.chain }, { on := 11, ground := Go.Ground.guard }], guard := some (11, true) }) rfl (fun K hK => ?_) AllReadyH.nil
          go_simp
          go_at_call 15
          (refine (count_calls m hm _).mono ?_; rintro e wD ⟨rfl, nD, hwD⟩; have n_ : Aside0 (Below W.heap.size W wD) := ⟨HBY.out.trans ((below_of_drew hwD).mono HBY.out.size)⟩; clear hwD HBY; have HBY := n_; clear n_)
          (try go_wp2_with fail)
          refine hK.out _ _ (by (try dsimp only); exact (box_below bLr (hBW'.trans (HBY.out.mono hBW'.size)) bLr.lt).cell) (fun hHeld2 => ?_)
          clear hK K hHeld
          have hHeld := hHeld2
          clear hHeld2
          (try simp only [Act.put, List.setIfInBounds_toArray, List.set_cons_zero, List.set_cons_succ])
          have hq2 : ((((bl m).length : Nat) : Int) == (((ints m).length : Nat) : Int)) = true := by simp [ints]
          refine wpAnyH_take (i := 16) (oi := { dst := some 88, op := Go.Op.binOp Go.BinOp.eql 3 (Go.Operand.tmp 85) (Go.Operand.tmp 87) 3, type := 4, pos := "law.go:42", after := #[{ on := 13, ground := Go.Ground.data }, { on := 15, ground := Go.Ground.data }, { on := 11, ground := Go.Ground.guard }], guard := some (11, true) }) (v := ?_) rfl (by kernel_rfl) (by kernel_rfl) (by kernel_rfl) (fun _ _ _ h => h) (Or.inl ⟨by rfl, ?hy16⟩) (by assumption) ?_
          case hy16 => intro w_ hSw; (try dsimp only at hSw); go_simp; all_goals (with_reducible rfl)
          (try simp only [Act.put, List.setIfInBounds_toArray, List.set_cons_zero, List.set_cons_succ])
          refine wpAnyH_take (i := 17) (oi := { dst := some 89, op := Go.Op.pick (Go.Operand.tmp 83) (Go.Operand.tmp 88) (Go.Operand.const (Go.Value.bool false)), type := 4, pos := "law.go:42", after := #[{ on := 11, ground := Go.Ground.data }, { on := 16, ground := Go.Ground.data }], guard := none }) (v := ?_) rfl (by kernel_rfl) (by kernel_rfl) (by kernel_rfl) (fun _ _ _ h => h) (Or.inl ⟨by rfl, ?hy17⟩) (by assumption) ?_
          case hy17 => intro w_ hSw; (try dsimp only at hSw); go_simp; all_goals (with_reducible rfl)
          (try simp only [Act.put, List.setIfInBounds_toArray, List.set_cons_zero, List.set_cons_succ])
          refine wpAnyH_take (i := 18) (oi := { dst := some 90, op := Go.Op.move (Go.Operand.tmp 89), type := 4, pos := "law.go:42", after := #[{ on := 17, ground := Go.Ground.data }, { on := 13, ground := Go.Ground.chain }], guard := none }) (v := ?_) rfl (by kernel_rfl) (by kernel_rfl) (by kernel_rfl) (fun _ _ _ h => h) (Or.inl ⟨by rfl, ?hy18⟩) (by assumption) ?_
          case hy18 => intro w_ hSw; (try dsimp only at hSw); go_simp; all_goals (with_reducible rfl)
          (try simp only [Act.put, List.setIfInBounds_toArray, List.set_cons_zero, List.set_cons_succ])
          refine wpAnyH_take (i := 19) (oi := { dst := some 91, op := Go.Op.move (Go.Operand.tmp 0), type := 22, pos := "law.go:42", after := #[{ on := 18, ground := Go.Ground.guard }], guard := some (18, true) }) (v := ?_) rfl (by kernel_rfl) (by kernel_rfl) (by kernel_rfl) (fun _ _ _ h => h) (Or.inl ⟨by rfl, ?hy19⟩) (by assumption) ?_
          case hy19 => intro w_ hSw; (try dsimp only at hSw); go_simp; all_goals (with_reducible rfl)
          (try simp only [Act.put, List.setIfInBounds_toArray, List.set_cons_zero, List.set_cons_succ])
          refine wpAnyH_take (i := 20) (oi := { dst := some 92, op := Go.Op.move (Go.Operand.tmp 1), type := 3, pos := "law.go:42", after := #[{ on := 18, ground := Go.Ground.guard }], guard := some (18, true) }) (v := ?_) rfl (by kernel_rfl) (by kernel_rfl) (by kernel_rfl) (fun _ _ _ h => h) (Or.inl ⟨by rfl, ?hy20⟩) (by assumption) ?_
          case hy20 => intro w_ hSw; (try dsimp only at hSw); go_simp; all_goals (with_reducible rfl)
          (try simp only [Act.put, List.setIfInBounds_toArray, List.set_cons_zero, List.set_cons_succ])
          refine wpAnyH_take (i := 22) (oi := { dst := some 94, op := Go.Op.move (Go.Operand.tmp 7), type := 23, pos := "law.go:42", after := #[{ on := 18, ground := Go.Ground.guard }], guard := some (18, true) }) (v := ?_) rfl (by kernel_rfl) (by kernel_rfl) (by kernel_rfl) (fun _ _ _ h => h) (Or.inl ⟨by rfl, ?hy22⟩) (by assumption) ?_
          case hy22 => intro w_ hSw; (try dsimp only at hSw); go_simp; all_goals (with_reducible rfl)
          (try simp only [Act.put, List.setIfInBounds_toArray, List.set_cons_zero, List.set_cons_succ])
          refine wpAnyH_ready (rs := [21]) (by kernel_rfl) (by simp) ?_
          refine AllReadyH.cons (o := { dst := some 93, op := Go.Op.call { callee := Go.Callee.value (Go.Operand.func 16), args := #[Go.Operand.tmp 91, Go.Operand.tmp 92], argTypes := #[22, 3] }, type := 22, pos := "law.go:42", after := #[{ on := 19, ground := Go.Ground.data }, { on := 20, ground := Go.Ground.data }, { on := 18, ground := Go.Ground.chain }, { on := 18, ground := Go.Ground.guard }], guard := some (18, true) }) rfl (fun K hK => ?_) AllReadyH.nil
          go_simp
          go_at_call 16
          (refine (with_calls m hm i _).mono ?_; rintro e wF ⟨rfl, nF, hwF⟩; have n_ : Aside0 (Below W.heap.size W wF) := ⟨HBY.out.trans ((below_of_drew hwF).mono HBY.out.size)⟩; clear hwF HBY; have HBY := n_; clear n_)
          (try go_wp2_with fail)
          refine hK.out _ _ (by (try dsimp only); exact (box_below bLr (hBW'.trans (HBY.out.mono hBW'.size)) bLr.lt).cell) (fun hHeld2 => ?_)
          clear hK K hHeld
          have hHeld := hHeld2
          clear hHeld2
          (try simp only [Act.put, List.setIfInBounds_toArray, List.set_cons_zero, List.set_cons_succ])
          refine wpAnyH_ready (rs := [23]) (by kernel_rfl) (by simp) ?_
          refine AllReadyH.cons (o := { dst := some 95, op := Go.Op.call { callee := Go.Callee.value (Go.Operand.func 8), args := #[Go.Operand.tmp 94], argTypes := #[23] }, type := 22, pos := "law.go:42", after := #[{ on := 22, ground := Go.Ground.data }, { on := 21, ground := Go.Ground.chain }, { on := 18, ground := Go.Ground.guard }], guard := some (18, true) }) rfl (fun K hK => ?_) AllReadyH.nil
          go_simp
          go_at_call 8
          (refine (refOf_calls (i :: ints m) (by simp; omega) A7 c7 _ (Kd.C_below hC7r (hBW'.trans (HBY.out.mono hBW'.size))) hcl7).mono ?_; rintro e wG ⟨rfl, nG, hwG⟩; have n_ : Aside0 (Below W.heap.size W wG) := ⟨HBY.out.trans ((below_of_drew hwG).mono HBY.out.size)⟩; clear hwG HBY; have HBY := n_; clear n_)
          (try go_wp2_with fail)
          refine hK.out _ _ (by (try dsimp only); exact (box_below bLr (hBW'.trans (HBY.out.mono hBW'.size)) bLr.lt).cell) (fun hHeld2 => ?_)
          clear hK K hHeld
          have hHeld := hHeld2
          clear hHeld2
          (try simp only [Act.put, List.setIfInBounds_toArray, List.set_cons_zero, List.set_cons_succ])
          have hq3 : (((m ||| sb i : Nat) : Int) == ((U (i :: ints m) : Nat) : Int)) = true := by rw [U_with m hm i]; simp
          refine wpAnyH_take (i := 24) (oi := { dst := some 96, op := Go.Op.binOp Go.BinOp.eql 22 (Go.Operand.tmp 93) (Go.Operand.tmp 95) 22, type := 4, pos := "law.go:42", after := #[{ on := 21, ground := Go.Ground.data }, { on := 23, ground := Go.Ground.data }, { on := 18, ground := Go.Ground.guard }], guard := some (18, true) }) (v := ?_) rfl (by kernel_rfl) (by kernel_rfl) (by kernel_rfl) (fun _ _ _ h => h) (Or.inl ⟨by rfl, ?hy24⟩) (by assumption) ?_
          case hy24 => intro w_ hSw; (try dsimp only at hSw); go_simp; all_goals (with_reducible rfl)
          (try simp only [Act.put, List.setIfInBounds_toArray, List.set_cons_zero, List.set_cons_succ])
          refine wpAnyH_take (i := 25) (oi := { dst := some 97, op := Go.Op.pick (Go.Operand.tmp 90) (Go.Operand.tmp 96) (Go.Operand.const (Go.Value.bool false)), type := 4, pos := "law.go:42", after := #[{ on := 18, ground := Go.Ground.data }, { on := 24, ground := Go.Ground.data }], guard := none }) (v := ?_) rfl (by kernel_rfl) (by kernel_rfl) (by kernel_rfl) (fun _ _ _ h => h) (Or.inl ⟨by rfl, ?hy25⟩) (by assumption) ?_
          case hy25 => intro w_ hSw; (try dsimp only at hSw); go_simp; all_goals (with_reducible rfl)
          (try simp only [Act.put, List.setIfInBounds_toArray, List.set_cons_zero, List.set_cons_succ])
          refine wpAnyH_take (i := 26) (oi := { dst := some 98, op := Go.Op.move (Go.Operand.tmp 97), type := 4, pos := "law.go:42", after := #[{ on := 25, ground := Go.Ground.data }, { on := 23, ground := Go.Ground.chain }], guard := none }) (v := ?_) rfl (by kernel_rfl) (by kernel_rfl) (by kernel_rfl) (fun _ _ _ h => h) (Or.inl ⟨by rfl, ?hy26⟩) (by assumption) ?_
          case hy26 => intro w_ hSw; (try dsimp only at hSw); go_simp; all_goals (with_reducible rfl)
          (try simp only [Act.put, List.setIfInBounds_toArray, List.set_cons_zero, List.set_cons_succ])
          refine wpAnyH_take (i := 27) (oi := { dst := some 99, op := Go.Op.move (Go.Operand.tmp 0), type := 22, pos := "law.go:42", after := #[{ on := 26, ground := Go.Ground.guard }], guard := some (26, true) }) (v := ?_) rfl (by kernel_rfl) (by kernel_rfl) (by kernel_rfl) (fun _ _ _ h => h) (Or.inl ⟨by rfl, ?hy27⟩) (by assumption) ?_
          case hy27 => intro w_ hSw; (try dsimp only at hSw); go_simp; all_goals (with_reducible rfl)
          (try simp only [Act.put, List.setIfInBounds_toArray, List.set_cons_zero, List.set_cons_succ])
          refine wpAnyH_take (i := 28) (oi := { dst := some 100, op := Go.Op.move (Go.Operand.tmp 1), type := 3, pos := "law.go:42", after := #[{ on := 26, ground := Go.Ground.guard }], guard := some (26, true) }) (v := ?_) rfl (by kernel_rfl) (by kernel_rfl) (by kernel_rfl) (fun _ _ _ h => h) (Or.inl ⟨by rfl, ?hy28⟩) (by assumption) ?_
          case hy28 => intro w_ hSw; (try dsimp only at hSw); go_simp; all_goals (with_reducible rfl)
          (try simp only [Act.put, List.setIfInBounds_toArray, List.set_cons_zero, List.set_cons_succ])
          refine wpAnyH_take (i := 30) (oi := { dst := some 102, op := Go.Op.move (Go.Operand.tmp 8), type := 23, pos := "law.go:42", after := #[{ on := 26, ground := Go.Ground.guard }], guard := some (26, true) }) (v := ?_) rfl (by kernel_rfl) (by kernel_rfl) (by kernel_rfl) (fun _ _ _ h => h) (Or.inl ⟨by rfl, ?hy30⟩) (by assumption) ?_
          case hy30 => intro w_ hSw; (try dsimp only at hSw); go_simp; all_goals (with_reducible rfl)
          (try simp only [Act.put, List.setIfInBounds_toArray, List.set_cons_zero, List.set_cons_succ])
          refine wpAnyH_ready (rs := [29]) (by kernel_rfl) (by simp) ?_
          refine AllReadyH.cons (o := { dst := some 101, op := Go.Op.call { callee := Go.Callee.value (Go.Operand.func 17), args := #[Go.Operand.tmp 99, Go.Operand.tmp 100], argTypes := #[22, 3] }, type := 22, pos := "law.go:42", after := #[{ on := 27, ground := Go.Ground.data }, { on := 28, ground := Go.Ground.data }, { on := 26, ground := Go.Ground.chain }, { on := 26, ground := Go.Ground.guard }], guard := some (26, true) }) rfl (fun K hK => ?_) AllReadyH.nil
          go_simp
          go_at_call 17
          (refine (without_calls m hm i _).mono ?_; rintro e wH ⟨rfl, nH, hwH⟩; have n_ : Aside0 (Below W.heap.size W wH) := ⟨HBY.out.trans ((below_of_drew hwH).mono HBY.out.size)⟩; clear hwH HBY; have HBY := n_; clear n_)
          (try go_wp2_with fail)
          refine hK.out _ _ (by (try dsimp only); exact (box_below bLr (hBW'.trans (HBY.out.mono hBW'.size)) bLr.lt).cell) (fun hHeld2 => ?_)
          clear hK K hHeld
          have hHeld := hHeld2
          clear hHeld2
          (try simp only [Act.put, List.setIfInBounds_toArray, List.set_cons_zero, List.set_cons_succ])
          refine wpAnyH_ready (rs := [31]) (by kernel_rfl) (by simp) ?_
          refine AllReadyH.cons (o := { dst := some 103, op := Go.Op.call { callee := Go.Callee.value (Go.Operand.func 8), args := #[Go.Operand.tmp 102], argTypes := #[23] }, type := 22, pos := "law.go:42", after := #[{ on := 30, ground := Go.Ground.data }, { on := 29, ground := Go.Ground.chain }, { on := 26, ground := Go.Ground.guard }], guard := some (26, true) }) rfl (fun K hK => ?_) AllReadyH.nil
          go_simp
          go_at_call 8
          (refine (refOf_calls ((ints m).filter (fun x => !decide (x = i))) hfl8 A8 c8 _ (Kd.C_below HC8.out (hBW'.trans (HBY.out.mono hBW'.size))) hcl8).mono ?_; rintro e wI ⟨rfl, nI, hwI⟩; have n_ : Aside0 (Below W.heap.size W wI) := ⟨HBY.out.trans ((below_of_drew hwI).mono HBY.out.size)⟩; clear hwI HBY; have HBY := n_; clear n_)
          (try go_wp2_with fail)
          refine hK.out _ _ (by (try dsimp only); exact (box_below bLr (hBW'.trans (HBY.out.mono hBW'.size)) bLr.lt).cell) (fun hHeld2 => ?_)
          clear hK K hHeld
          have hHeld := hHeld2
          clear hHeld2
          (try simp only [Act.put, List.setIfInBounds_toArray, List.set_cons_zero, List.set_cons_succ])
          have hq4 : (((m &&& (18446744073709551615 - sb i) : Nat) : Int) == ((U ((ints m).filter (fun x => !decide (x = i))) : Nat) : Int)) = true := by rw [U_without m hm i]; simp
          refine wpAnyH_take (i := 32) (oi := { dst := some 104, op := Go.Op.binOp Go.BinOp.eql 22 (Go.Operand.tmp 101) (Go.Operand.tmp 103) 22, type := 4, pos := "law.go:42", after := #[{ on := 29, ground := Go.Ground.data }, { on := 31, ground := Go.Ground.data }, { on := 26, ground := Go.Ground.guard }], guard := some (26, true) }) (v := ?_) rfl (by kernel_rfl) (by kernel_rfl) (by kernel_rfl) (fun _ _ _ h => h) (Or.inl ⟨by rfl, ?hy32⟩) (by assumption) ?_
          case hy32 => intro w_ hSw; (try dsimp only at hSw); go_simp; all_goals (with_reducible rfl)
          (try simp only [Act.put, List.setIfInBounds_toArray, List.set_cons_zero, List.set_cons_succ])
          refine wpAnyH_take (i := 33) (oi := { dst := some 105, op := Go.Op.pick (Go.Operand.tmp 98) (Go.Operand.tmp 104) (Go.Operand.const (Go.Value.bool false)), type := 4, pos := "law.go:42", after := #[{ on := 26, ground := Go.Ground.data }, { on := 32, ground := Go.Ground.data }], guard := none }) (v := ?_) rfl (by kernel_rfl) (by kernel_rfl) (by kernel_rfl) (fun _ _ _ h => h) (Or.inl ⟨by rfl, ?hy33⟩) (by assumption) ?_
          case hy33 => intro w_ hSw; (try dsimp only at hSw); go_simp; all_goals (with_reducible rfl)
          (try simp only [Act.put, List.setIfInBounds_toArray, List.set_cons_zero, List.set_cons_succ])
          refine wpAnyH_take (i := 34) (oi := { dst := some 106, op := Go.Op.move (Go.Operand.tmp 105), type := 4, pos := "law.go:42", after := #[{ on := 33, ground := Go.Ground.data }, { on := 31, ground := Go.Ground.chain }], guard := none }) (v := ?_) rfl (by kernel_rfl) (by kernel_rfl) (by kernel_rfl) (fun _ _ _ h => h) (Or.inl ⟨by rfl, ?hy34⟩) (by assumption) ?_
          case hy34 => intro w_ hSw; (try dsimp only at hSw); go_simp; all_goals (with_reducible rfl)
          (try simp only [Act.put, List.setIfInBounds_toArray, List.set_cons_zero, List.set_cons_succ])
          refine wpAnyH_ready (rs := [35]) (by kernel_rfl) (by simp) ?_
          refine AllReadyH.cons (o := { dst := some 107, op := Go.Op.call { callee := Go.Callee.value (Go.Operand.func 5), args := #[], argTypes := #[] }, type := 4, pos := "law.go:42", after := #[{ on := 34, ground := Go.Ground.chain }, { on := 34, ground := Go.Ground.guard }], guard := some (34, true) }) rfl (fun K hK => ?_) AllReadyH.nil
          go_simp
          go_at_call 5
          (refine (awake_calls _ ((hT.below hBr h0).below (hBW'.trans (HBY.out.mono hBW'.size)) h0r) (Nat.lt_of_lt_of_le h0r (hBW'.trans (HBY.out.mono hBW'.size)).size)).mono ?_; rintro e wJ ⟨rfl, hBJ⟩; have n_ : Aside0 (Below W.heap.size W wJ) := ⟨HBY.out.trans (hBJ.mono HBY.out.size)⟩; clear HBY hBJ; have HBY := n_; clear n_)
          (try go_wp2_with fail)
          refine hK.out _ _ (by (try dsimp only); exact (box_below bLr (hBW'.trans (HBY.out.mono hBW'.size)) bLr.lt).cell) (fun hHeld2 => ?_)
          clear hK K hHeld
          have hHeld := hHeld2
          clear hHeld2
          (try simp only [Act.put, List.setIfInBounds_toArray, List.set_cons_zero, List.set_cons_succ])
          refine wpAnyH_take (i := 36) (oi := { dst := some 108, op := Go.Op.pick (Go.Operand.tmp 106) (Go.Operand.tmp 107) (Go.Operand.const (Go.Value.bool false)), type := 4, pos := "law.go:42", after := #[{ on := 34, ground := Go.Ground.data }, { on := 35, ground := Go.Ground.data }], guard := none }) (v := ?_) rfl (by kernel_rfl) (by kernel_rfl) (by kernel_rfl) (fun _ _ _ h => h) (Or.inl ⟨by rfl, ?hy36⟩) (by assumption) ?_
          case hy36 => intro w_ hSw; (try dsimp only at hSw); go_simp; all_goals (with_reducible rfl)
          (try simp only [Act.put, List.setIfInBounds_toArray, List.set_cons_zero, List.set_cons_succ])
          have bOf := box_below bOr (hBW'.trans (HBY.out.mono hBW'.size)) bOr.lt
          have hfO := bOf.frozen
          have hcO := bOf.cell
          refine wpAnyH_ready (rs := [37]) (by kernel_rfl) (by simp) ?_
          refine AllReadyH.cons (o := { dst := none, op := Go.Op.store 4 (Go.Operand.tmp 4) (Go.Operand.tmp 108), type := 0, pos := "law.go:42", after := #[{ on := 36, ground := Go.Ground.data }, { on := 35, ground := Go.Ground.chain }, { on := 0, ground := Go.Ground.phase }, { on := 1, ground := Go.Ground.phase }, { on := 2, ground := Go.Ground.phase }, { on := 3, ground := Go.Ground.phase }, { on := 4, ground := Go.Ground.phase }, { on := 5, ground := Go.Ground.phase }, { on := 6, ground := Go.Ground.phase }, { on := 7, ground := Go.Ground.phase }, { on := 8, ground := Go.Ground.phase }, { on := 9, ground := Go.Ground.phase }, { on := 10, ground := Go.Ground.phase }, { on := 11, ground := Go.Ground.phase }, { on := 12, ground := Go.Ground.phase }, { on := 13, ground := Go.Ground.phase }, { on := 14, ground := Go.Ground.phase }, { on := 15, ground := Go.Ground.phase }, { on := 16, ground := Go.Ground.phase }, { on := 17, ground := Go.Ground.phase }, { on := 18, ground := Go.Ground.phase }, { on := 19, ground := Go.Ground.phase }, { on := 20, ground := Go.Ground.phase }, { on := 21, ground := Go.Ground.phase }, { on := 22, ground := Go.Ground.phase }, { on := 23, ground := Go.Ground.phase }, { on := 24, ground := Go.Ground.phase }, { on := 25, ground := Go.Ground.phase }, { on := 26, ground := Go.Ground.phase }, { on := 27, ground := Go.Ground.phase }, { on := 28, ground := Go.Ground.phase }, { on := 29, ground := Go.Ground.phase }, { on := 30, ground := Go.Ground.phase }, { on := 31, ground := Go.Ground.phase }, { on := 32, ground := Go.Ground.phase }, { on := 33, ground := Go.Ground.phase }, { on := 34, ground := Go.Ground.phase }, { on := 35, ground := Go.Ground.phase }, { on := 36, ground := Go.Ground.phase }], guard := none }) rfl (fun K hK => ?_) AllReadyH.nil
          go_simp
          refine hK.out _ _ (by (try dsimp only); exact ((box_below bLr (hBW'.trans (HBY.out.mono hBW'.size)) bLr.lt).other (Nat.ne_of_gt h5) _).cell) (fun hHeld2 => ?_)
          clear hK K hHeld
          have hHeld := hHeld2
          clear hHeld2
          (try simp only [Act.put, List.setIfInBounds_toArray, List.set_cons_zero, List.set_cons_succ])
          refine wpAnyH_done (by kernel_rfl) ?_ _
          clear hHeld
          dsimp only [noPanic]
          go_wp2
          have hsetO := bOf.set (.bool true)
          have hDlt : D < W.heap.size := (Array.getElem?_eq_some_iff.1 HKD.out).1
          have hDne : D ≠ w.heap.size := by have h1 := HD.out; have h2 := hBr.size; omega
          have hKJ := (Below.heap_setCell wJ ⟨w.heap.size, 0, none⟩ (.bool true) D hDne).trans ((HBY.out.block D hDlt).trans HKD.out)
          have hBJ := (hBr.trans ((hBW'.trans (HBY.out.mono hBW'.size)).mono hBr.size)).setCell (p := ⟨w.heap.size, 0, none⟩) (Nat.le_refl _) (.bool true)
          refine ⟨by simp, .inl ⟨_, _, rfl, run_takeDeferred hKJ, ?_⟩⟩
          exact ⟨_, results_box rfl ((World.putObj_heap_other (Ne.symm hDne)).trans hsetO), rfl, hBJ.trans (belowK_b (w := w) (Nat.le_refl _) _ D _ _ (by have h1 := HD.out; have h2 := hBr.size; omega) hKJ rfl rfl)⟩
end Go.Proofs.YtjlegibfeenglaaDoor
