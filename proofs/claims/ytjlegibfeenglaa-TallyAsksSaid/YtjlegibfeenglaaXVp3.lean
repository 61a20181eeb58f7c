-- written by wip/xprint.py out of the translation
import Derived.Test.YtjlegibfeenglaaXVp0
import Derived.Test.YtjlegibfeenglaaXVp1
import Derived.Test.YtjlegibfeenglaaXVp2
namespace Go.Proofs.Ytjlegibfeenglaa.XV
open Go.RowKit Go.Proofs.YtjlegibfeenglaaW.PrintWords Go.Proofs.YtjlegibfeenglaaW.PrintLast Go.Proofs.YtjlegibfeenglaaW.PrintMore
attribute [local go_sem] max2_int min2_int max_two min_two max_three min_three max_four min_four   -- for this text's walks alone
set_option linter.unusedVariables false
set_option linter.unusedSimpArgs false

/-! ### semblancelaw55_TallyAsks: function 4 -/
-- USES semblance/tally.New
-- USES semblance/semblancelaw55.awake
-- USES semblance/semblanceref55.Same
-- USES semblance/semblanceref55.Total
-- USES semblance/semblancelaw55.TallySums
def semblancelaw55_TallyAsks.f (a0 : Int) (l1 : List (S38)) : Option Bool := some true
/-- the plain row beside the tally -/
def semblancelaw55_TallyAsks.Row (W : World) (h : Nat) (xs : List Int) : Prop := W.heap[h]? = some (.cells (nums .u64 xs).toArray 36 (0, 0))
theorem semblancelaw55_TallyAsks.Row.C {W : World} {h : Nat} {xs : List Int} (hr : semblancelaw55_TallyAsks.Row W h xs) (hl : xs.length ≤ 64) : Kd.C (Kd.int .u64) W (some ⟨h, 0, none⟩) xs.length xs := by
  unfold semblancelaw55_TallyAsks.Row at hr
  refine Kd.C_of_reads (d := 0) ⟨rfl, by omega, fun _ => ⟨_, rfl, fun j hj => ?_⟩⟩
  rw [add_plain]
  unfold World.cell?
  rw [hr]
  simp [List.getD, hj, nums]
theorem semblancelaw55_TallyAsks.Row.at_ {W : World} {h : Nat} {xs : List Int} (hr : semblancelaw55_TallyAsks.Row W h xs) {i : Nat} (hi : i < xs.length) : W.cell? ⟨h, i, none⟩ = some (.int .u64 (rd xs (i : Int))) ∧ W.frozen? ⟨h, i, none⟩ = false := by
  unfold semblancelaw55_TallyAsks.Row at hr
  constructor
  · simp [World.cell?, hr, nums, rd, hi]
  · simp [World.frozen?, hr]
theorem semblancelaw55_TallyAsks.Row.below {W W1 : World} {h : Nat} {xs : List Int} (hr : semblancelaw55_TallyAsks.Row W h xs) (hb : Below W.heap.size W W1) : semblancelaw55_TallyAsks.Row W1 h xs := (hb.block h (lt_of_block hr)).trans hr
theorem semblancelaw55_TallyAsks.Row.set {W : World} {h : Nat} {xs : List Int} (hr : semblancelaw55_TallyAsks.Row W h xs) (i : Nat) (y : Int) : semblancelaw55_TallyAsks.Row (W.setCell ⟨h, i, none⟩ (.int .u64 y)) h (xs.set i y) := by
  unfold semblancelaw55_TallyAsks.Row at hr ⊢
  have e : (nums .u64 (xs.set i y)).toArray = (nums .u64 xs).toArray.setIfInBounds i (.int .u64 y) := by simp [nums, List.map_set]
  rw [e]
  exact blk_set hr i _
theorem semblancelaw55_TallyAsks.Row.other {W : World} {h g : Nat} {xs : List Int} (hr : semblancelaw55_TallyAsks.Row W h xs) (hne : h ≠ g) (i : Nat) (y : Value) : semblancelaw55_TallyAsks.Row (W.setCell ⟨g, i, none⟩ y) h xs :=
  (Below.heap_setCell W ⟨g, i, none⟩ y h hne).trans hr
theorem semblancelaw55_TallyAsks.ne1 {W : World} {h p g : Nat} {xs ys : List Int} (hr : semblancelaw55_TallyAsks.Row W h xs) (hi : tally.Is W p g ys) : p ≠ h := by
  rintro rfl
  have h1 := hi.head
  unfold semblancelaw55_TallyAsks.Row at hr
  rw [hr] at h1
  injection h1 with h1
  injection h1 with _ h2
  exact absurd h2 (by decide)
theorem semblancelaw55_TallyAsks.ne2 {W : World} {h p g : Nat} {xs ys : List Int} (hr : semblancelaw55_TallyAsks.Row W h xs) (hi : tally.Is W p g ys) : g ≠ h := by
  rintro rfl
  have h1 := hi.row
  unfold semblancelaw55_TallyAsks.Row at hr
  rw [hr] at h1
  injection h1 with h1
  injection h1 with _ h2
  exact absurd h2 (by decide)
theorem semblancelaw55_TallyAsks.tot (xs : List Int) (hx : xs.length ≤ 1000000) : ∀ (d n k : Nat) (s : Int), xs.length - n = d → n ≤ xs.length → d < k → semblanceref55_Total.l0 k xs s n = some ((xs.drop n).foldl Go.Proofs.Ytjlegibfeenglaa.XTallyPlain.sum s) := by
  intro d
  induction d with
  | zero =>
    intro n k s hd hn hk
    obtain ⟨k, rfl⟩ : ∃ m, k = m + 1 := ⟨k - 1, by omega⟩
    have h1 : ¬ ((n : Int) < (xs.length : Int)) := by omega
    simp only [semblanceref55_Total.l0, h1, if_false]
    rw [List.drop_eq_nil_of_le (by omega)]
    rfl
  | succ d ih =>
    intro n k s hd hn hk
    obtain ⟨k, rfl⟩ : ∃ m, k = m + 1 := ⟨k - 1, by omega⟩
    have h0 : n < xs.length := by omega
    have h1 : (n : Int) < (xs.length : Int) := by omega
    have h2 : (0 : Int) ≤ (n : Int) := by omega
    have hw : wrap64 ((n : Int) + 1) = ((n + 1 : Nat) : Int) := by unfold wrap64; omega
    simp only [semblanceref55_Total.l0, h1, h2, if_true]
    rw [hw, ih (n + 1) k _ (by omega) (by omega) (by omega), List.drop_eq_getElem_cons h0, List.foldl_cons]
    have hrd : rd xs (n : Int) = xs[n] := by simp [rd, h0]
    rw [hrd]
    rfl
theorem semblancelaw55_TallyAsks.total2 (xs : List Int) (hx : xs.length ≤ 1000000) : semblanceref55_Total.f (xs.length + 1) xs = some (Go.Proofs.Ytjlegibfeenglaa.XTallyPlain.total xs) := by
  have h := semblancelaw55_TallyAsks.tot xs hx xs.length 0 (xs.length + 1) 0 (by omega) (by omega) (by omega)
  rw [List.drop_zero] at h
  exact h
def semblancelaw55_TallyAsks.Tot (ys : List Int) (ty : Int) : Prop := Go.Proofs.Ytjlegibfeenglaa.XTallyPlain.total ys = ty
theorem semblancelaw55_TallyAsks.sameC (n : Nat) (Aa : Option Addr) (ca : Nat) (ys : List Int) (h : Nat) (W : World) (hC : Kd.C (Kd.int .u64) W Aa ys.length ys) (hla : ys.length ≤ ca) (hr : semblancelaw55_TallyAsks.Row W h ys) (hn : ys.length = n) (hm : n ≤ 64) :
    Calls Try.prog 24 #[.slice Aa ys.length ca, .slice (some ⟨h, 0, none⟩) n n] W fun e w' => e = .returned (.bool true) ∧ Drawn0 W w' := by
  subst hn
  exact semblanceref55_Same.calls _ Aa ca ys (some ⟨h, 0, none⟩) ys.length ys true W hC hla (hr.C hm) (Nat.le_refl _) (semblancelaw55_TallySums.same ys (by omega))
theorem semblancelaw55_TallyAsks.totC (n : Nat) (ys : List Int) (h : Nat) (ty : Int) (W : World) (hr : semblancelaw55_TallyAsks.Row W h ys) (hn : ys.length = n) (hm : n ≤ 64) (ht : semblancelaw55_TallyAsks.Tot ys ty) :
    Calls Try.prog 27 #[.slice (some ⟨h, 0, none⟩) n n] W fun e w' => e = .returned (.int .u64 ty) ∧ Drawn0 W w' := by
  subst hn
  unfold semblancelaw55_TallyAsks.Tot at ht
  subst ht
  exact semblanceref55_Total.calls _ (some ⟨h, 0, none⟩) ys.length ys _ W (hr.C hm) (Nat.le_refl _) (semblancelaw55_TallyAsks.total2 ys (by omega))
/-- behind the switch -/
def semblancelaw55_TallyAsks.Sw (w W : World) (p g h q n : Nat) (ai : Int) : Prop :=
  ∃ ys : List Int, ys.length = n ∧ tally.Is W p g ys ∧ semblancelaw55_TallyAsks.Row W h ys ∧ W.cell? ⟨q, 1, none⟩ = some (.int .i64 ai) ∧ Below w.heap.size w W
open Go.Proofs.Ytjlegibfeenglaa.XTallyPlain semblancelaw55_TallyAsks in
set_option maxHeartbeats 8000000 in
set_option maxRecDepth 100000 in
theorem semblancelaw55_TallyAsks.calls (a0 : Int) (A1 : Option Addr) (c1 : Nat) (l1 : List (S38)) (r : Bool) (w : World) (hr1 : Kd.C k38 w A1 l1.length l1) (hc1 : l1.length ≤ c1) (h : semblancelaw55_TallyAsks.f a0 l1 = some r) :
    Calls Try.prog 4 #[.int .i64 a0, .slice A1 l1.length c1] w fun e w' => e = .returned (.bool r) ∧ Below w.heap.size w w' := by
  obtain rfl : true = r := Option.some.inj h
  have hlen : l1.length ≤ 9223372036854775807 := hr1.2.1
  have HR1 := Aside0.mk hr1
  clear h hr1
  by_cases h100 : 100 < l1.length
  · have c1 : decide (100 < l1.length) = true := decide_eq_true h100
    have c2 : decide ((100 : Int) < (l1.length : Int)) = true := decide_eq_true (by omega)
    go_enter Try.func4, Try.ntmps4
    go_wp2_with (go_at_call 17; refine (semblancelaw55_awake.calls true _ rfl).mono ?_; rintro e w' ⟨rfl, hb⟩)
    go_ret
    exact ⟨rfl, hb⟩
  have k1 : decide (100 < l1.length) = false := decide_eq_false h100
  have k2 : decide ((100 : Int) < (l1.length : Int)) = false := decide_eq_false (by omega)
  by_cases hn : 1 ≤ a0 ∧ a0 ≤ 64
  rotate_left
  · have HN := Aside0.mk hn
    by_cases hn1 : a0 < 1
    · have d1 : decide (a0 < 1) = true := decide_eq_true hn1
      clear hn
      go_enter Try.func4, Try.ntmps4
      go_wp2_with (first | (go_at_call 18; refine (tally.newNo a0 _ HN.out).mono ?_; rintro e w' ⟨rfl, rfl⟩) | (go_at_call 17; refine (semblancelaw55_awake.calls true _ rfl).mono ?_; rintro e w' ⟨rfl, hb⟩))
      go_ret
      exact ⟨rfl, hb⟩
    · have d1 : decide (a0 < 1) = false := decide_eq_false hn1
      have d2 : decide (64 < a0) = true := decide_eq_true (by omega)
      clear hn
      go_enter Try.func4, Try.ntmps4
      go_wp2_with (first | (go_at_call 18; refine (tally.newNo a0 _ HN.out).mono ?_; rintro e w' ⟨rfl, rfl⟩) | (go_at_call 17; refine (semblancelaw55_awake.calls true _ rfl).mono ?_; rintro e w' ⟨rfl, hb⟩))
      go_ret
      exact ⟨rfl, hb⟩
  obtain ⟨n, rfl⟩ : ∃ n : Nat, a0 = n := ⟨a0.toNat, by omega⟩
  obtain ⟨hn1, hn2⟩ : 1 ≤ n ∧ n ≤ 64 := ⟨by omega, by omega⟩
  clear hn
  have d1 : decide ((n : Int) < 1) = false := decide_eq_false (by omega)
  have d2 : decide ((64 : Int) < (n : Int)) = false := decide_eq_false (by omega)
  have hmk := print_make (P := Try.prog) 35 36 .u64 8 Try.underlying35 tally.info8 (by omega) n (by omega)
  rw [tally.zeros] at hmk
  generalize hz : (nums .u64 (List.replicate n 0)).toArray = zs at hmk
  have HZ := Aside0.mk hz
  clear hz
  go_enter Try.func4, Try.ntmps4
  go_wp2_with fail
  refine (tally.newL n _ hn1 hn2).mono ?_
  rintro e w1 ⟨p, g, rfl, hp, hg, his, hb⟩
  have HB1 := Aside0.mk hb
  have HG := Aside0.mk hg
  have H1 := Aside0.mk his
  have hc := his.cell
  rw [List.length_replicate] at hc
  have HC := Aside0.mk hc
  clear hb hp hg his hc
  go_wp2_with (go_at_call 19; refine (tally.sizeL p n n _ _ HC.out).mono ?_; rintro e w' ⟨rfl, rfl⟩)
  have HROW : Aside0 (Row (w1.alloc (.cells zs 36)) w1.heap.size (List.replicate n 0)) := ⟨by unfold semblancelaw55_TallyAsks.Row; rw [HZ.out]; exact heap_alloc_new _ _⟩
  have HIS : Aside0 (tally.Is (w1.alloc (.cells zs 36)) p g (List.replicate n 0)) := ⟨H1.out.alloc _⟩
  have HB2 : Aside0 (Below w.heap.size w (w1.alloc (.cells zs 36))) := ⟨below_alloc HB1.out _⟩
  have hh : w.heap.size ≤ w1.heap.size := HB1.out.size
  have HH := Aside0.mk hh
  generalize hhh : w1.heap.size = h at *
  have HHH := Aside0.mk hhh
  clear hmk hh hhh H1 HC HB1
  go_loopg [8] l1.length (fun kq v8 wr' => ∃ (wr : World) (i : Nat) (xs : List Int), wr = wr' ∧ Aside0 (l1.length - i = kq) ∧ Aside0 (i ≤ l1.length) ∧ v8 = .int .i64 (i : Int) ∧ Aside0 (xs.length = n) ∧ Aside0 (tally.Is wr p g xs) ∧ Aside0 (Row wr h xs) ∧ Aside0 (Below w.heap.size w wr))
  case atStart => exact ⟨_, 0, _, rfl, ⟨rfl⟩, ⟨Nat.zero_le _⟩, rfl, ⟨List.length_replicate⟩, HIS, HROW, HB2⟩
  case round =>
    clear HIS HROW HB2
    obtain ⟨wr, i, xs, rfl, HK, HI, rfl, HXL, HIS, HROW, HB⟩ := hrel
    by_cases hi : i < l1.length
    rotate_left
    · have hlt : decide ((i : Int) < (l1.length : Int)) = false := decide_eq_false (by omega)
      go_wp2_with (go_at_call 17; refine (semblancelaw55_awake.calls true _ rfl).mono ?_; rintro e w' ⟨rfl, hb⟩)
      go_ret
      exact ⟨rfl, below_then HB.out HB.out.size hb⟩
    have hlt : decide ((i : Int) < (l1.length : Int)) = true := decide_eq_true (by omega)
    obtain ⟨ad, e1, hx0, hx1, hx2⟩ := at_T38 (Kd.C_below HR1.out HB.out) (i : Int) (by omega) (by omega)
    subst e1
    rw [Int.toNat_natCast] at hx0 hx1 hx2
    generalize rd_T38 l1 (i : Int) = a at *
    obtain ⟨ado, ai, ak⟩ := a
    dsimp only at hx0 hx1 hx2
    have hi1 : (i : Int) < (l1.length : Int) := by omega
    have hi0 : (0 : Int) ≤ (i : Int) := Int.natCast_nonneg _
    have hne1 := ne1 HROW.out HIS.out
    have hne2 := ne2 HROW.out HIS.out
    have HNE1 := Aside0.mk hne1
    have HNE2 := Aside0.mk hne2
    clear hne1 hne2
    by_cases hin : 0 ≤ ai ∧ ai < (n : Int)
    · obtain ⟨ia, rfl⟩ : ∃ ia : Nat, ai = ia := ⟨ai.toNat, by omega⟩
      have hia : ia < n := by omega
      have g1 : decide ((0 : Int) ≤ (ia : Int)) = true := decide_eq_true (by omega)
      have g2 : decide ((ia : Int) < (n : Int)) = true := decide_eq_true (by omega)
      have hia1 : (ia : Int) < (n : Int) := by omega
      clear hin
      have HI1 : Aside0 (tally.Is (wr.alloc (.cells #[.int .i64 ado, .int .i64 (ia : Int), .int .u64 ak] 38)) p g xs) := ⟨HIS.out.alloc _⟩
      have HR1 : Aside0 (Row (wr.alloc (.cells #[.int .i64 ado, .int .i64 (ia : Int), .int .u64 ak] 38)) h xs) := ⟨HROW.out.below (below_alloc (Below.refl _ _) _)⟩
      have HBL : Aside0 (Below w.heap.size w (wr.alloc (.cells #[.int .i64 ado, .int .i64 (ia : Int), .int .u64 ak] 38))) := ⟨below_alloc HB.out _⟩
      have HQ0 : Aside0 ((wr.alloc (.cells #[.int .i64 ado, .int .i64 (ia : Int), .int .u64 ak] 38)).cell? ⟨wr.heap.size, 1, none⟩ = some (.int .i64 (ia : Int))) := ⟨by have h_ := heap_alloc_new wr (.cells #[.int .i64 ado, .int .i64 (ia : Int), .int .u64 ak] 38 (0, 0)); unfold World.cell?; rw [h_]; rfl⟩
      have HGL := Aside0.mk HIS.out.lt.2
      have HHL := Aside0.mk (lt_of_block HROW.out)
      obtain ⟨hwc, hwz⟩ := HROW.out.at_ (i := ia) (by rw [HXL.out]; omega)
      generalize hxe : rd xs (ia : Int) = x at hwc
      have HXE := Aside0.mk hxe
      clear hxe
      have hwc1 : (wr.alloc (.cells #[.int .i64 ado, .int .i64 (ia : Int), .int .u64 ak] 38)).cell? ⟨h, ia, none⟩ = some (.int .u64 x) := pw_cell_below (below_alloc (Below.refl _ _) _) hwc
      go_upto_block 2 with fail
      go_cut [12] (fun s12 wx => s12 = .bool true ∧ Aside0 (Sw w wx p g h wr.heap.size n (ia : Int)))
      case rest =>
       as_aux_lemma =>
        obtain ⟨rfl, HSW⟩ := hcut
        obtain ⟨ys, hyl, hi0, hr0, hq0, hb0⟩ := HSW.out
        have HYL := Aside0.mk hyl
        have HI0 := Aside0.mk hi0
        have HR0 := Aside0.mk hr0
        have HQ := Aside0.mk hq0
        have HB0 := Aside0.mk hb0
        clear hyl hi0 hr0 hq0 hb0 HSW hx0 hx1 hx2 hwc hwz hwc1
        go_wp2_with fail
        have HBX : Aside0 (Below wc.heap.size wc wc) := ⟨Below.refl _ _⟩
        obtain ⟨ty, HTY⟩ : ∃ ty, semblancelaw55_TallyAsks.Tot ys ty := ⟨_, rfl⟩
        obtain ⟨hyc, -⟩ := HR0.out.at_ (i := ia) (by rw [HYL.out]; omega)
        generalize hye : rd ys (ia : Int) = y at hyc
        have HY := Aside0.mk hyc
        have HYE := Aside0.mk hye
        clear hye hyc
        refine wp_region_held_drew (S := fun w' => w'.cell? ⟨wr.heap.size, 1, none⟩ = some (.int .i64 (ia : Int)) ∧ w'.cell? ⟨h, ia, none⟩ = some (.int .u64 y)) (by kernel_rfl) (by exact ⟨pw_cell_below (by repeat (first | exact HBX.out | apply below_drew | apply pw_below_drewN | apply below_alloc)) HQ.out, pw_cell_below (by repeat (first | exact HBX.out | apply below_drew | apply pw_below_drewN | apply below_alloc)) HY.out⟩) (fun hHeld => ?_)
        refine wpAnyH_take (i := 0) (oi := { dst := some 171, op := Go.Op.move (Go.Operand.tmp 12), type := 4, pos := "law.go:72", after := #[], guard := none }) (v := ?_) rfl (by kernel_rfl) (by kernel_rfl) (by kernel_rfl) (fun _ _ _ h => h) (Or.inl ⟨by rfl, ?hy0⟩) (by assumption) ?_
        case hy0 => intro w_ hSw; (try dsimp only at hSw); go_simp; all_goals (with_reducible rfl)
        (try simp only [Act.put, List.setIfInBounds_toArray, List.set_cons_zero, List.set_cons_succ])
        refine wpAnyH_take (i := 1) (oi := { dst := some 172, op := Go.Op.unOp Go.UnOp.not 4 (Go.Operand.tmp 171), type := 4, pos := "law.go:72", after := #[{ on := 0, ground := Go.Ground.data }], guard := none }) (v := ?_) rfl (by kernel_rfl) (by kernel_rfl) (by kernel_rfl) (fun _ _ _ h => h) (Or.inl ⟨by rfl, ?hy1⟩) (by assumption) ?_
        case hy1 => intro w_ hSw; (try dsimp only at hSw); go_simp; all_goals (with_reducible rfl)
        (try simp only [Act.put, List.setIfInBounds_toArray, List.set_cons_zero, List.set_cons_succ])
        refine wpAnyH_take (i := 2) (oi := { dst := some 173, op := Go.Op.move (Go.Operand.tmp 172), type := 4, pos := "law.go:72", after := #[{ on := 1, ground := Go.Ground.data }], guard := none }) (v := ?_) rfl (by kernel_rfl) (by kernel_rfl) (by kernel_rfl) (fun _ _ _ h => h) (Or.inl ⟨by rfl, ?hy2⟩) (by assumption) ?_
        case hy2 => intro w_ hSw; (try dsimp only at hSw); go_simp; all_goals (with_reducible rfl)
        (try simp only [Act.put, List.setIfInBounds_toArray, List.set_cons_zero, List.set_cons_succ])
        refine wpAnyH_take (i := 3) (oi := { dst := some 174, op := Go.Op.move (Go.Operand.tmp 10), type := 24, pos := "law.go:72", after := #[{ on := 2, ground := Go.Ground.guard }], guard := some (2, false) }) (v := ?_) rfl (by kernel_rfl) (by kernel_rfl) (by kernel_rfl) (fun _ _ _ h => h) (Or.inl ⟨by rfl, ?hy3⟩) (by assumption) ?_
        case hy3 => intro w_ hSw; (try dsimp only at hSw); go_simp; all_goals (with_reducible rfl)
        (try simp only [Act.put, List.setIfInBounds_toArray, List.set_cons_zero, List.set_cons_succ])
        refine wpAnyH_take (i := 4) (oi := { dst := some 175, op := Go.Op.binOp Go.BinOp.eql 24 (Go.Operand.tmp 174) (Go.Operand.const (Go.Value.int Go.IntKind.i64 0)) 24, type := 4, pos := "law.go:72", after := #[{ on := 3, ground := Go.Ground.data }, { on := 2, ground := Go.Ground.guard }], guard := some (2, false) }) (v := ?_) rfl (by kernel_rfl) (by kernel_rfl) (by kernel_rfl) (fun _ _ _ h => h) (Or.inl ⟨by rfl, ?hy4⟩) (by assumption) ?_
        case hy4 => intro w_ hSw; (try dsimp only at hSw); go_simp; all_goals (with_reducible rfl)
        (try simp only [Act.put, List.setIfInBounds_toArray, List.set_cons_zero, List.set_cons_succ])
        refine wpAnyH_take (i := 5) (oi := { dst := some 176, op := Go.Op.move (Go.Operand.tmp 175), type := 4, pos := "law.go:72", after := #[{ on := 4, ground := Go.Ground.data }, { on := 2, ground := Go.Ground.chain }, { on := 2, ground := Go.Ground.guard }], guard := some (2, false) }) (v := ?_) rfl (by kernel_rfl) (by kernel_rfl) (by kernel_rfl) (fun _ _ _ h => h) (Or.inl ⟨by rfl, ?hy5⟩) (by assumption) ?_
        case hy5 => intro w_ hSw; (try dsimp only at hSw); go_simp; all_goals (with_reducible rfl)
        (try simp only [Act.put, List.setIfInBounds_toArray, List.set_cons_zero, List.set_cons_succ])
        refine wpAnyH_take (i := 6) (oi := { dst := some 177, op := Go.Op.move (Go.Operand.tmp 5), type := 31, pos := "law.go:72", after := #[{ on := 5, ground := Go.Ground.guard }], guard := some (5, true) }) (v := ?_) rfl (by kernel_rfl) (by kernel_rfl) (by kernel_rfl) (fun _ _ _ h => h) (Or.inl ⟨by rfl, ?hy6⟩) (by assumption) ?_
        case hy6 => intro w_ hSw; (try dsimp only at hSw); go_simp; all_goals (with_reducible rfl)
        (try simp only [Act.put, List.setIfInBounds_toArray, List.set_cons_zero, List.set_cons_succ])
        refine wpAnyH_take (i := 7) (oi := { dst := some 178, op := Go.Op.fieldAddr 38 (Go.Operand.tmp 9) 1, type := 0, pos := "law.go:72", after := #[{ on := 5, ground := Go.Ground.guard }], guard := some (5, true) }) (v := ?_) rfl (by kernel_rfl) (by kernel_rfl) (by kernel_rfl) (fun _ _ _ h => h) (Or.inl ⟨by rfl, ?hy7⟩) (by assumption) ?_
        case hy7 => intro w_ hSw; (try dsimp only at hSw); go_simp; all_goals (with_reducible rfl)
        (try simp only [Act.put, List.setIfInBounds_toArray, List.set_cons_zero, List.set_cons_succ])
        refine wpAnyH_take (i := 8) (oi := { dst := some 179, op := Go.Op.load 3 (Go.Operand.tmp 178), type := 3, pos := "law.go:72", after := #[{ on := 7, ground := Go.Ground.data }, { on := 5, ground := Go.Ground.guard }], guard := some (5, true) }) (v := ?_) rfl (by kernel_rfl) (by kernel_rfl) (by kernel_rfl) (fun _ _ _ h => h) (Or.inl ⟨by rfl, ?hy8⟩) (by assumption) ?_
        case hy8 => intro w_ hSw; (try dsimp only at hSw); go_simp; all_goals (with_reducible rfl)
        (try simp only [Act.put, List.setIfInBounds_toArray, List.set_cons_zero, List.set_cons_succ])
        refine wpAnyH_take (i := 10) (oi := { dst := some 181, op := Go.Op.move (Go.Operand.tmp 7), type := 35, pos := "law.go:72", after := #[{ on := 5, ground := Go.Ground.guard }], guard := some (5, true) }) (v := ?_) rfl (by kernel_rfl) (by kernel_rfl) (by kernel_rfl) (fun _ _ _ h => h) (Or.inl ⟨by rfl, ?hy10⟩) (by assumption) ?_
        case hy10 => intro w_ hSw; (try dsimp only at hSw); go_simp; all_goals (with_reducible rfl)
        (try simp only [Act.put, List.setIfInBounds_toArray, List.set_cons_zero, List.set_cons_succ])
        refine wpAnyH_take (i := 11) (oi := { dst := some 182, op := Go.Op.fieldAddr 38 (Go.Operand.tmp 9) 1, type := 0, pos := "law.go:72", after := #[{ on := 5, ground := Go.Ground.guard }], guard := some (5, true) }) (v := ?_) rfl (by kernel_rfl) (by kernel_rfl) (by kernel_rfl) (fun _ _ _ h => h) (Or.inl ⟨by rfl, ?hy11⟩) (by assumption) ?_
        case hy11 => intro w_ hSw; (try dsimp only at hSw); go_simp; all_goals (with_reducible rfl)
        (try simp only [Act.put, List.setIfInBounds_toArray, List.set_cons_zero, List.set_cons_succ])
        refine wpAnyH_take (i := 12) (oi := { dst := some 183, op := Go.Op.load 3 (Go.Operand.tmp 182), type := 3, pos := "law.go:72", after := #[{ on := 11, ground := Go.Ground.data }, { on := 5, ground := Go.Ground.guard }], guard := some (5, true) }) (v := ?_) rfl (by kernel_rfl) (by kernel_rfl) (by kernel_rfl) (fun _ _ _ h => h) (Or.inl ⟨by rfl, ?hy12⟩) (by assumption) ?_
        case hy12 => intro w_ hSw; (try dsimp only at hSw); go_simp; all_goals (with_reducible rfl)
        (try simp only [Act.put, List.setIfInBounds_toArray, List.set_cons_zero, List.set_cons_succ])
        refine wpAnyH_take (i := 13) (oi := { dst := some 184, op := Go.Op.indexAddr 35 (Go.Operand.tmp 181) (Go.Operand.tmp 183), type := 0, pos := "law.go:72", after := #[{ on := 10, ground := Go.Ground.data }, { on := 12, ground := Go.Ground.data }, { on := 5, ground := Go.Ground.guard }], guard := some (5, true) }) (v := ?_) rfl (by kernel_rfl) (by kernel_rfl) (by kernel_rfl) (fun _ _ _ h => h) (Or.inl ⟨by rfl, ?hy13⟩) (by assumption) ?_
        case hy13 => intro w_ hSw; (try dsimp only at hSw); go_simp; all_goals (with_reducible rfl)
        (try simp only [Act.put, List.setIfInBounds_toArray, List.set_cons_zero, List.set_cons_succ])
        refine wpAnyH_take (i := 14) (oi := { dst := some 185, op := Go.Op.load 36 (Go.Operand.tmp 184), type := 36, pos := "law.go:72", after := #[{ on := 13, ground := Go.Ground.data }, { on := 5, ground := Go.Ground.guard }], guard := some (5, true) }) (v := ?_) rfl (by kernel_rfl) (by kernel_rfl) (by kernel_rfl) (fun _ _ _ h => h) (Or.inl ⟨by rfl, ?hy14⟩) (by assumption) ?_
        case hy14 => intro w_ hSw; (try dsimp only at hSw); go_simp; all_goals (with_reducible rfl)
        (try simp only [Act.put, List.setIfInBounds_toArray, List.set_cons_zero, List.set_cons_succ])
        refine wpAnyH_ready (rs := [9]) (by kernel_rfl) (by simp) ?_
        refine AllReadyH.cons (o := { dst := some 180, op := Go.Op.call { callee := Go.Callee.value (Go.Operand.func 23), args := #[Go.Operand.tmp 177, Go.Operand.tmp 179], argTypes := #[31, 3] }, type := 36, pos := "law.go:72", after := #[{ on := 6, ground := Go.Ground.data }, { on := 8, ground := Go.Ground.data }, { on := 5, ground := Go.Ground.chain }, { on := 5, ground := Go.Ground.guard }], guard := some (5, true) }) rfl (fun K hK => ?_) AllReadyH.nil
        go_simp
        go_at_call 23
        ((with_reducible refine (tally.getIn ia p g ys _ (by exact HI0.out.below (by repeat (first | exact HBX.out | apply below_drew | apply pw_below_drewN | apply below_alloc))) (by rw [HYL.out]; omega)).mono ?_); rw [HYE.out]; rintro e w' ⟨rfl, rfl⟩)
        (try go_wp2_with fail)
        refine hK.out _ _ (by (try dsimp only); exact ⟨pw_cell_below (by repeat (first | exact HBX.out | apply below_drew | apply pw_below_drewN | apply below_alloc)) HQ.out, pw_cell_below (by repeat (first | exact HBX.out | apply below_drew | apply pw_below_drewN | apply below_alloc)) HY.out⟩) (fun hHeld2 => ?_)
        clear hK K hHeld
        have hHeld := hHeld2
        clear hHeld2
        (try simp only [Act.put, List.setIfInBounds_toArray, List.set_cons_zero, List.set_cons_succ])
        refine wpAnyH_take (i := 15) (oi := { dst := some 186, op := Go.Op.binOp Go.BinOp.neq 36 (Go.Operand.tmp 180) (Go.Operand.tmp 185) 36, type := 4, pos := "law.go:72", after := #[{ on := 9, ground := Go.Ground.data }, { on := 14, ground := Go.Ground.data }, { on := 5, ground := Go.Ground.guard }], guard := some (5, true) }) (v := ?_) rfl (by kernel_rfl) (by kernel_rfl) (by kernel_rfl) (fun _ _ _ h => h) (Or.inl ⟨by rfl, ?hy15⟩) (by assumption) ?_
        case hy15 => intro w_ hSw; (try dsimp only at hSw); go_simp; all_goals (with_reducible rfl)
        (try simp only [Act.put, List.setIfInBounds_toArray, List.set_cons_zero, List.set_cons_succ])
        refine wpAnyH_take (i := 16) (oi := { dst := some 187, op := Go.Op.pick (Go.Operand.tmp 176) (Go.Operand.tmp 186) (Go.Operand.const (Go.Value.bool false)), type := 4, pos := "law.go:72", after := #[{ on := 5, ground := Go.Ground.data }, { on := 15, ground := Go.Ground.data }, { on := 2, ground := Go.Ground.guard }], guard := some (2, false) }) (v := ?_) rfl (by kernel_rfl) (by kernel_rfl) (by kernel_rfl) (fun _ _ _ h => h) (Or.inl ⟨by rfl, ?hy16⟩) (by assumption) ?_
        case hy16 => intro w_ hSw; (try dsimp only at hSw); go_simp; all_goals (with_reducible rfl)
        (try simp only [Act.put, List.setIfInBounds_toArray, List.set_cons_zero, List.set_cons_succ])
        refine wpAnyH_take (i := 17) (oi := { dst := some 188, op := Go.Op.pick (Go.Operand.tmp 173) (Go.Operand.const (Go.Value.bool true)) (Go.Operand.tmp 187), type := 4, pos := "law.go:72", after := #[{ on := 2, ground := Go.Ground.data }, { on := 16, ground := Go.Ground.data }], guard := none }) (v := ?_) rfl (by kernel_rfl) (by kernel_rfl) (by kernel_rfl) (fun _ _ _ h => h) (Or.inl ⟨by rfl, ?hy17⟩) (by assumption) ?_
        case hy17 => intro w_ hSw; (try dsimp only at hSw); go_simp; all_goals (with_reducible rfl)
        (try simp only [Act.put, List.setIfInBounds_toArray, List.set_cons_zero, List.set_cons_succ])
        refine wpAnyH_take (i := 18) (oi := { dst := some 189, op := Go.Op.move (Go.Operand.tmp 188), type := 4, pos := "law.go:72", after := #[{ on := 17, ground := Go.Ground.data }, { on := 9, ground := Go.Ground.chain }], guard := none }) (v := ?_) rfl (by kernel_rfl) (by kernel_rfl) (by kernel_rfl) (fun _ _ _ h => h) (Or.inl ⟨by rfl, ?hy18⟩) (by assumption) ?_
        case hy18 => intro w_ hSw; (try dsimp only at hSw); go_simp; all_goals (with_reducible rfl)
        (try simp only [Act.put, List.setIfInBounds_toArray, List.set_cons_zero, List.set_cons_succ])
        refine wpAnyH_take (i := 19) (oi := { dst := some 190, op := Go.Op.move (Go.Operand.tmp 10), type := 24, pos := "law.go:72", after := #[{ on := 18, ground := Go.Ground.guard }], guard := some (18, false) }) (v := ?_) rfl (by kernel_rfl) (by kernel_rfl) (by kernel_rfl) (fun _ _ _ h => h) (Or.inl ⟨by rfl, ?hy19⟩) (by assumption) ?_
        case hy19 => intro w_ hSw; (try dsimp only at hSw); go_simp; all_goals (with_reducible rfl)
        (try simp only [Act.put, List.setIfInBounds_toArray, List.set_cons_zero, List.set_cons_succ])
        refine wpAnyH_take (i := 20) (oi := { dst := some 191, op := Go.Op.binOp Go.BinOp.neq 24 (Go.Operand.tmp 190) (Go.Operand.const (Go.Value.int Go.IntKind.i64 0)) 24, type := 4, pos := "law.go:72", after := #[{ on := 19, ground := Go.Ground.data }, { on := 18, ground := Go.Ground.guard }], guard := some (18, false) }) (v := ?_) rfl (by kernel_rfl) (by kernel_rfl) (by kernel_rfl) (fun _ _ _ h => h) (Or.inl ⟨by rfl, ?hy20⟩) (by assumption) ?_
        case hy20 => intro w_ hSw; (try dsimp only at hSw); go_simp; all_goals (with_reducible rfl)
        (try simp only [Act.put, List.setIfInBounds_toArray, List.set_cons_zero, List.set_cons_succ])
        refine wpAnyH_take (i := 21) (oi := { dst := some 192, op := Go.Op.move (Go.Operand.tmp 191), type := 4, pos := "law.go:72", after := #[{ on := 20, ground := Go.Ground.data }, { on := 18, ground := Go.Ground.chain }, { on := 18, ground := Go.Ground.guard }], guard := some (18, false) }) (v := ?_) rfl (by kernel_rfl) (by kernel_rfl) (by kernel_rfl) (fun _ _ _ h => h) (Or.inl ⟨by rfl, ?hy21⟩) (by assumption) ?_
        case hy21 => intro w_ hSw; (try dsimp only at hSw); go_simp; all_goals (with_reducible rfl)
        (try simp only [Act.put, List.setIfInBounds_toArray, List.set_cons_zero, List.set_cons_succ])
        refine wpAnyH_take (i := 22) (oi := { dst := some 193, op := Go.Op.move (Go.Operand.tmp 5), type := 31, pos := "law.go:72", after := #[{ on := 21, ground := Go.Ground.guard }], guard := some (21, true) }) (v := undef) rfl (by kernel_rfl) (by kernel_rfl) (by kernel_rfl) (fun _ _ _ h => h) (Or.inr ⟨by rfl, rfl⟩) (by assumption) ?_
        (try simp only [Act.put, List.setIfInBounds_toArray, List.set_cons_zero, List.set_cons_succ])
        refine wpAnyH_take (i := 23) (oi := { dst := some 194, op := Go.Op.fieldAddr 38 (Go.Operand.tmp 9) 1, type := 0, pos := "law.go:72", after := #[{ on := 21, ground := Go.Ground.guard }], guard := some (21, true) }) (v := undef) rfl (by kernel_rfl) (by kernel_rfl) (by kernel_rfl) (fun _ _ _ h => h) (Or.inr ⟨by rfl, rfl⟩) (by assumption) ?_
        (try simp only [Act.put, List.setIfInBounds_toArray, List.set_cons_zero, List.set_cons_succ])
        refine wpAnyH_take (i := 24) (oi := { dst := some 195, op := Go.Op.load 3 (Go.Operand.tmp 194), type := 3, pos := "law.go:72", after := #[{ on := 23, ground := Go.Ground.data }, { on := 21, ground := Go.Ground.guard }], guard := some (21, true) }) (v := undef) rfl (by kernel_rfl) (by kernel_rfl) (by kernel_rfl) (fun _ _ _ h => h) (Or.inr ⟨by rfl, rfl⟩) (by assumption) ?_
        (try simp only [Act.put, List.setIfInBounds_toArray, List.set_cons_zero, List.set_cons_succ])
        refine wpAnyH_take (i := 25) (oi := { dst := some 196, op := Go.Op.call { callee := Go.Callee.value (Go.Operand.func 23), args := #[Go.Operand.tmp 193, Go.Operand.tmp 195], argTypes := #[31, 3] }, type := 36, pos := "law.go:72", after := #[{ on := 22, ground := Go.Ground.data }, { on := 24, ground := Go.Ground.data }, { on := 21, ground := Go.Ground.chain }, { on := 21, ground := Go.Ground.guard }], guard := some (21, true) }) (v := undef) rfl (by kernel_rfl) (by kernel_rfl) (by kernel_rfl) (fun _ _ _ h => h) (Or.inr ⟨by rfl, rfl⟩) (by assumption) ?_
        (try simp only [Act.put, List.setIfInBounds_toArray, List.set_cons_zero, List.set_cons_succ])
        refine wpAnyH_take (i := 26) (oi := { dst := some 197, op := Go.Op.binOp Go.BinOp.neq 36 (Go.Operand.tmp 196) (Go.Operand.const (Go.Value.int Go.IntKind.u64 0)) 36, type := 4, pos := "law.go:72", after := #[{ on := 25, ground := Go.Ground.data }, { on := 21, ground := Go.Ground.guard }], guard := some (21, true) }) (v := undef) rfl (by kernel_rfl) (by kernel_rfl) (by kernel_rfl) (fun _ _ _ h => h) (Or.inr ⟨by rfl, rfl⟩) (by assumption) ?_
        (try simp only [Act.put, List.setIfInBounds_toArray, List.set_cons_zero, List.set_cons_succ])
        refine wpAnyH_take (i := 27) (oi := { dst := some 198, op := Go.Op.pick (Go.Operand.tmp 192) (Go.Operand.tmp 197) (Go.Operand.const (Go.Value.bool false)), type := 4, pos := "law.go:72", after := #[{ on := 21, ground := Go.Ground.data }, { on := 26, ground := Go.Ground.data }, { on := 18, ground := Go.Ground.guard }], guard := some (18, false) }) (v := ?_) rfl (by kernel_rfl) (by kernel_rfl) (by kernel_rfl) (fun _ _ _ h => h) (Or.inl ⟨by rfl, ?hy27⟩) (by assumption) ?_
        case hy27 => intro w_ hSw; (try dsimp only at hSw); go_simp; all_goals (with_reducible rfl)
        (try simp only [Act.put, List.setIfInBounds_toArray, List.set_cons_zero, List.set_cons_succ])
        refine wpAnyH_take (i := 28) (oi := { dst := some 199, op := Go.Op.pick (Go.Operand.tmp 189) (Go.Operand.const (Go.Value.bool true)) (Go.Operand.tmp 198), type := 4, pos := "law.go:72", after := #[{ on := 18, ground := Go.Ground.data }, { on := 27, ground := Go.Ground.data }], guard := none }) (v := ?_) rfl (by kernel_rfl) (by kernel_rfl) (by kernel_rfl) (fun _ _ _ h => h) (Or.inl ⟨by rfl, ?hy28⟩) (by assumption) ?_
        case hy28 => intro w_ hSw; (try dsimp only at hSw); go_simp; all_goals (with_reducible rfl)
        (try simp only [Act.put, List.setIfInBounds_toArray, List.set_cons_zero, List.set_cons_succ])
        refine wpAnyH_take (i := 29) (oi := { dst := some 200, op := Go.Op.move (Go.Operand.tmp 199), type := 4, pos := "law.go:72", after := #[{ on := 28, ground := Go.Ground.data }, { on := 25, ground := Go.Ground.chain }], guard := none }) (v := ?_) rfl (by kernel_rfl) (by kernel_rfl) (by kernel_rfl) (fun _ _ _ h => h) (Or.inl ⟨by rfl, ?hy29⟩) (by assumption) ?_
        case hy29 => intro w_ hSw; (try dsimp only at hSw); go_simp; all_goals (with_reducible rfl)
        (try simp only [Act.put, List.setIfInBounds_toArray, List.set_cons_zero, List.set_cons_succ])
        refine wpAnyH_take (i := 30) (oi := { dst := some 201, op := Go.Op.move (Go.Operand.tmp 5), type := 31, pos := "law.go:72", after := #[{ on := 29, ground := Go.Ground.guard }], guard := some (29, false) }) (v := ?_) rfl (by kernel_rfl) (by kernel_rfl) (by kernel_rfl) (fun _ _ _ h => h) (Or.inl ⟨by rfl, ?hy30⟩) (by assumption) ?_
        case hy30 => intro w_ hSw; (try dsimp only at hSw); go_simp; all_goals (with_reducible rfl)
        (try simp only [Act.put, List.setIfInBounds_toArray, List.set_cons_zero, List.set_cons_succ])
        refine wpAnyH_take (i := 32) (oi := { dst := some 203, op := Go.Op.move (Go.Operand.tmp 7), type := 35, pos := "law.go:72", after := #[{ on := 29, ground := Go.Ground.guard }], guard := some (29, false) }) (v := ?_) rfl (by kernel_rfl) (by kernel_rfl) (by kernel_rfl) (fun _ _ _ h => h) (Or.inl ⟨by rfl, ?hy32⟩) (by assumption) ?_
        case hy32 => intro w_ hSw; (try dsimp only at hSw); go_simp; all_goals (with_reducible rfl)
        (try simp only [Act.put, List.setIfInBounds_toArray, List.set_cons_zero, List.set_cons_succ])
        refine wpAnyH_ready (rs := [31]) (by kernel_rfl) (by simp) ?_
        refine AllReadyH.cons (o := { dst := some 202, op := Go.Op.call { callee := Go.Callee.value (Go.Operand.func 25), args := #[Go.Operand.tmp 201], argTypes := #[31] }, type := 35, pos := "law.go:72", after := #[{ on := 30, ground := Go.Ground.data }, { on := 29, ground := Go.Ground.chain }, { on := 29, ground := Go.Ground.guard }], guard := some (29, false) }) rfl (fun K hK => ?_) AllReadyH.nil
        go_simp
        go_at_call 25
        ((with_reducible refine (tally.allL p g ys _ (by exact HI0.out.below (by repeat (first | exact HBX.out | apply below_drew | apply pw_below_drewN | apply below_alloc)))).mono ?_); rintro e w3 ⟨va, rfl, hra, hb⟩; obtain ⟨Aa, ca, rfl, hla, hCa⟩ := Kd.R_reads hra; have HCa := Aside0.mk hCa; have HLa := Aside0.mk hla; clear hra hCa hla; have n_ := Aside0.mk (below_then (by repeat (first | exact HBX.out | apply below_drew | apply pw_below_drewN | apply below_alloc)) (Below.size (by repeat (first | exact HBX.out | apply below_drew | apply pw_below_drewN | apply below_alloc))) hb); clear HBX hb; have HBX := n_; clear n_)
        (try go_wp2_with fail)
        refine hK.out _ _ (by (try dsimp only); exact ⟨pw_cell_below (by repeat (first | exact HBX.out | apply below_drew | apply pw_below_drewN | apply below_alloc)) HQ.out, pw_cell_below (by repeat (first | exact HBX.out | apply below_drew | apply pw_below_drewN | apply below_alloc)) HY.out⟩) (fun hHeld2 => ?_)
        clear hK K hHeld
        have hHeld := hHeld2
        clear hHeld2
        (try simp only [Act.put, List.setIfInBounds_toArray, List.set_cons_zero, List.set_cons_succ])
        refine wpAnyH_ready (rs := [33]) (by kernel_rfl) (by simp) ?_
        refine AllReadyH.cons (o := { dst := some 204, op := Go.Op.call { callee := Go.Callee.value (Go.Operand.func 24), args := #[Go.Operand.tmp 202, Go.Operand.tmp 203], argTypes := #[35, 35] }, type := 4, pos := "law.go:72", after := #[{ on := 31, ground := Go.Ground.data }, { on := 32, ground := Go.Ground.data }, { on := 31, ground := Go.Ground.chain }, { on := 29, ground := Go.Ground.guard }], guard := some (29, false) }) rfl (fun K hK => ?_) AllReadyH.nil
        go_simp
        go_at_call 24
        ((with_reducible refine (sameC n Aa ca ys h _ (by repeat (first | exact HCa.out | apply Kd.C_drew | apply Kd.C_drewN)) HLa.out (by exact HR0.out.below (by repeat (first | exact HBX.out | apply below_drew | apply pw_below_drewN | apply below_alloc))) HYL.out hn2).mono ?_); rintro e w' ⟨rfl, ⟨m, rfl⟩⟩)
        (try go_wp2_with fail)
        refine hK.out _ _ (by (try dsimp only); exact ⟨pw_cell_below (by repeat (first | exact HBX.out | apply below_drew | apply pw_below_drewN | apply below_alloc)) HQ.out, pw_cell_below (by repeat (first | exact HBX.out | apply below_drew | apply pw_below_drewN | apply below_alloc)) HY.out⟩) (fun hHeld2 => ?_)
        clear hK K hHeld
        have hHeld := hHeld2
        clear hHeld2
        (try simp only [Act.put, List.setIfInBounds_toArray, List.set_cons_zero, List.set_cons_succ])
        refine wpAnyH_take (i := 34) (oi := { dst := some 205, op := Go.Op.unOp Go.UnOp.not 4 (Go.Operand.tmp 204), type := 4, pos := "law.go:72", after := #[{ on := 33, ground := Go.Ground.data }, { on := 29, ground := Go.Ground.guard }], guard := some (29, false) }) (v := ?_) rfl (by kernel_rfl) (by kernel_rfl) (by kernel_rfl) (fun _ _ _ h => h) (Or.inl ⟨by rfl, ?hy34⟩) (by assumption) ?_
        case hy34 => intro w_ hSw; (try dsimp only at hSw); go_simp; all_goals (with_reducible rfl)
        (try simp only [Act.put, List.setIfInBounds_toArray, List.set_cons_zero, List.set_cons_succ])
        refine wpAnyH_take (i := 35) (oi := { dst := some 206, op := Go.Op.pick (Go.Operand.tmp 200) (Go.Operand.const (Go.Value.bool true)) (Go.Operand.tmp 205), type := 4, pos := "law.go:72", after := #[{ on := 29, ground := Go.Ground.data }, { on := 34, ground := Go.Ground.data }], guard := none }) (v := ?_) rfl (by kernel_rfl) (by kernel_rfl) (by kernel_rfl) (fun _ _ _ h => h) (Or.inl ⟨by rfl, ?hy35⟩) (by assumption) ?_
        case hy35 => intro w_ hSw; (try dsimp only at hSw); go_simp; all_goals (with_reducible rfl)
        (try simp only [Act.put, List.setIfInBounds_toArray, List.set_cons_zero, List.set_cons_succ])
        refine wpAnyH_take (i := 36) (oi := { dst := some 207, op := Go.Op.move (Go.Operand.tmp 206), type := 4, pos := "law.go:72", after := #[{ on := 35, ground := Go.Ground.data }, { on := 33, ground := Go.Ground.chain }], guard := none }) (v := ?_) rfl (by kernel_rfl) (by kernel_rfl) (by kernel_rfl) (fun _ _ _ h => h) (Or.inl ⟨by rfl, ?hy36⟩) (by assumption) ?_
        case hy36 => intro w_ hSw; (try dsimp only at hSw); go_simp; all_goals (with_reducible rfl)
        (try simp only [Act.put, List.setIfInBounds_toArray, List.set_cons_zero, List.set_cons_succ])
        refine wpAnyH_take (i := 37) (oi := { dst := some 208, op := Go.Op.move (Go.Operand.tmp 5), type := 31, pos := "law.go:72", after := #[{ on := 36, ground := Go.Ground.guard }], guard := some (36, false) }) (v := ?_) rfl (by kernel_rfl) (by kernel_rfl) (by kernel_rfl) (fun _ _ _ h => h) (Or.inl ⟨by rfl, ?hy37⟩) (by assumption) ?_
        case hy37 => intro w_ hSw; (try dsimp only at hSw); go_simp; all_goals (with_reducible rfl)
        (try simp only [Act.put, List.setIfInBounds_toArray, List.set_cons_zero, List.set_cons_succ])
        refine wpAnyH_take (i := 39) (oi := { dst := some 210, op := Go.Op.move (Go.Operand.tmp 7), type := 35, pos := "law.go:72", after := #[{ on := 36, ground := Go.Ground.guard }], guard := some (36, false) }) (v := ?_) rfl (by kernel_rfl) (by kernel_rfl) (by kernel_rfl) (fun _ _ _ h => h) (Or.inl ⟨by rfl, ?hy39⟩) (by assumption) ?_
        case hy39 => intro w_ hSw; (try dsimp only at hSw); go_simp; all_goals (with_reducible rfl)
        (try simp only [Act.put, List.setIfInBounds_toArray, List.set_cons_zero, List.set_cons_succ])
        refine wpAnyH_ready (rs := [38]) (by kernel_rfl) (by simp) ?_
        refine AllReadyH.cons (o := { dst := some 209, op := Go.Op.call { callee := Go.Callee.value (Go.Operand.func 26), args := #[Go.Operand.tmp 208], argTypes := #[31] }, type := 36, pos := "law.go:72", after := #[{ on := 37, ground := Go.Ground.data }, { on := 36, ground := Go.Ground.chain }, { on := 36, ground := Go.Ground.guard }], guard := some (36, false) }) rfl (fun K hK => ?_) AllReadyH.nil
        go_simp
        go_at_call 26
        ((with_reducible refine (tally.totalL p g ys _ (by exact HI0.out.below (by repeat (first | exact HBX.out | apply below_drew | apply pw_below_drewN | apply below_alloc)))).mono ?_); rw [show Go.Proofs.Ytjlegibfeenglaa.XTallyPlain.total ys = ty from HTY]; rintro e w5 ⟨rfl, hb⟩; have n_ := Aside0.mk (below_then (by repeat (first | exact HBX.out | apply below_drew | apply pw_below_drewN | apply below_alloc)) (Below.size (by repeat (first | exact HBX.out | apply below_drew | apply pw_below_drewN | apply below_alloc))) hb); clear HBX hb; have HBX := n_; clear n_)
        (try go_wp2_with fail)
        refine hK.out _ _ (by (try dsimp only); exact ⟨pw_cell_below (by repeat (first | exact HBX.out | apply below_drew | apply pw_below_drewN | apply below_alloc)) HQ.out, pw_cell_below (by repeat (first | exact HBX.out | apply below_drew | apply pw_below_drewN | apply below_alloc)) HY.out⟩) (fun hHeld2 => ?_)
        clear hK K hHeld
        have hHeld := hHeld2
        clear hHeld2
        (try simp only [Act.put, List.setIfInBounds_toArray, List.set_cons_zero, List.set_cons_succ])
        refine wpAnyH_ready (rs := [40]) (by kernel_rfl) (by simp) ?_
        refine AllReadyH.cons (o := { dst := some 211, op := Go.Op.call { callee := Go.Callee.value (Go.Operand.func 27), args := #[Go.Operand.tmp 210], argTypes := #[35] }, type := 36, pos := "law.go:72", after := #[{ on := 39, ground := Go.Ground.data }, { on := 38, ground := Go.Ground.chain }, { on := 36, ground := Go.Ground.guard }], guard := some (36, false) }) rfl (fun K hK => ?_) AllReadyH.nil
        go_simp
        go_at_call 27
        ((with_reducible refine (totC n ys h ty _ (by exact HR0.out.below (by repeat (first | exact HBX.out | apply below_drew | apply pw_below_drewN | apply below_alloc))) HYL.out hn2 HTY).mono ?_); rintro e w' ⟨rfl, ⟨m2, rfl⟩⟩)
        (try go_wp2_with fail)
        refine hK.out _ _ (by (try dsimp only); exact ⟨pw_cell_below (by repeat (first | exact HBX.out | apply below_drew | apply pw_below_drewN | apply below_alloc)) HQ.out, pw_cell_below (by repeat (first | exact HBX.out | apply below_drew | apply pw_below_drewN | apply below_alloc)) HY.out⟩) (fun hHeld2 => ?_)
        clear hK K hHeld
        have hHeld := hHeld2
        clear hHeld2
        (try simp only [Act.put, List.setIfInBounds_toArray, List.set_cons_zero, List.set_cons_succ])
        refine wpAnyH_take (i := 41) (oi := { dst := some 212, op := Go.Op.binOp Go.BinOp.neq 36 (Go.Operand.tmp 209) (Go.Operand.tmp 211) 36, type := 4, pos := "law.go:72", after := #[{ on := 38, ground := Go.Ground.data }, { on := 40, ground := Go.Ground.data }, { on := 36, ground := Go.Ground.guard }], guard := some (36, false) }) (v := ?_) rfl (by kernel_rfl) (by kernel_rfl) (by kernel_rfl) (fun _ _ _ h => h) (Or.inl ⟨by rfl, ?hy41⟩) (by assumption) ?_
        case hy41 => intro w_ hSw; (try dsimp only at hSw); go_simp; all_goals (with_reducible rfl)
        (try simp only [Act.put, List.setIfInBounds_toArray, List.set_cons_zero, List.set_cons_succ])
        refine wpAnyH_take (i := 42) (oi := { dst := some 213, op := Go.Op.pick (Go.Operand.tmp 207) (Go.Operand.const (Go.Value.bool true)) (Go.Operand.tmp 212), type := 4, pos := "law.go:72", after := #[{ on := 36, ground := Go.Ground.data }, { on := 41, ground := Go.Ground.data }], guard := none }) (v := ?_) rfl (by kernel_rfl) (by kernel_rfl) (by kernel_rfl) (fun _ _ _ h => h) (Or.inl ⟨by rfl, ?hy42⟩) (by assumption) ?_
        case hy42 => intro w_ hSw; (try dsimp only at hSw); go_simp; all_goals (with_reducible rfl)
        (try simp only [Act.put, List.setIfInBounds_toArray, List.set_cons_zero, List.set_cons_succ])
        refine wpAnyH_done (by kernel_rfl) ?_ _
        clear hHeld
        go_wp2_with fail
        go_roundg (l1.length - (i + 1))
        case measure => have := HK.out; omega
        case rel => exact ⟨_, i + 1, ys, rfl, ⟨rfl⟩, ⟨hi⟩, by go_num, HYL, ⟨HI0.out.below (by repeat (first | exact HBX.out | apply below_drew | apply pw_below_drewN | apply below_alloc))⟩, ⟨HR0.out.below (by repeat (first | exact HBX.out | apply below_drew | apply pw_below_drewN | apply below_alloc))⟩, ⟨below_then HB0.out HB0.out.size (by repeat (first | exact HBX.out | apply below_drew | apply pw_below_drewN | apply below_alloc))⟩⟩
      case first =>
        by_cases q0 : ado = 0
        · have t0 : (ado == 0) = true := beq_iff_eq.mpr q0
          clear q0
          as_aux_lemma =>
            go_wp2_with fail
            with_reducible refine (tally.addIn ia ak p g xs _ HI1.out (by rw [HXL.out]; omega)).mono ?_
            rw [HXE.out]
            rintro e w4 ⟨rfl, hw4⟩
            have HI4 : Aside0 (tally.Is w4 p g (xs.set ia (sum x ak))) := ⟨hw4 ▸ HI1.out.set ia _⟩
            have HR4 : Aside0 (Row w4 h xs) := ⟨hw4 ▸ HR1.out.other (Ne.symm HNE2.out) ia _⟩
            have HB4 : Aside0 (Below w.heap.size w w4) := ⟨hw4 ▸ HBL.out.setCell (p := ⟨g, ia, none⟩) HG.out _⟩
            have HQ4 : Aside0 (w4.cell? ⟨wr.heap.size, 1, none⟩ = some (.int .i64 (ia : Int)) ∧ w4.cell? ⟨wr.heap.size, 2, none⟩ = some (.int .u64 ak)) := ⟨by rw [← hw4, World.cell?_setCell_other _ _ _ _ (by simp; have := HGL.out; omega), World.cell?_setCell_other _ _ _ _ (by simp; have := HGL.out; omega)]; have h_ := heap_alloc_new wr (.cells #[.int .i64 ado, .int .i64 (ia : Int), .int .u64 ak] 38 (0, 0)); unfold World.cell?; rw [h_]; exact ⟨rfl, rfl⟩⟩
            clear hw4 hwc1
            have hq1 := HQ4.out.1
            have hq2 := HQ4.out.2
            obtain ⟨hwc4, hwz4⟩ := HR4.out.at_ (i := ia) (by rw [HXL.out]; omega)
            clear hwc hwz
            go_wp2_with fail
            clear hq1 hq2 hwc4 hwz4
            obtain ⟨W0, hW0⟩ : ∃ W0, W0 = w4.setCell ⟨h, ia, none⟩ (.int .u64 (IntKind.u64.wrap (x + ak))) := ⟨_, rfl⟩
            rw [← hW0]
            obtain ⟨ys, hys⟩ : ∃ ys, ys = xs.set ia (sum x ak) := ⟨_, rfl⟩
            have HI0 : Aside0 (tally.Is W0 p g ys) := ⟨by rw [hW0, hys]; exact HI4.out.move (Below.heap_setCell _ ⟨h, ia, none⟩ _ p HNE1.out) (Below.heap_setCell _ ⟨h, ia, none⟩ _ g HNE2.out)⟩
            have HR0 : Aside0 (Row W0 h ys) := ⟨by rw [hW0, hys]; exact HR4.out.set ia _⟩
            have HB0 : Aside0 (Below w.heap.size w W0) := ⟨by rw [hW0]; exact HB4.out.setCell (p := ⟨h, ia, none⟩) HH.out _⟩
            have HQ : Aside0 (W0.cell? ⟨wr.heap.size, 1, none⟩ = some (.int .i64 (ia : Int))) := ⟨by rw [hW0, World.cell?_setCell_other _ _ _ _ (by simp; have := HHL.out; omega)]; exact HQ4.out.1⟩
            have HYL : Aside0 (ys.length = n) := ⟨by rw [hys, List.length_set]; exact HXL.out⟩
            clear hW0 hys HI4 HR4 HB4 HQ4
            go_meet
            exact ⟨rfl, ⟨ys, HYL.out, HI0.out, HR0.out, HQ.out, HB0.out⟩⟩
        have t0 : (ado == 0) = false := beq_eq_false_iff_ne.mpr q0
        clear q0
        by_cases q0 : ado = 1
        · have t1 : (ado == 1) = true := beq_iff_eq.mpr q0
          clear q0
          as_aux_lemma =>
            go_wp2_with fail
            with_reducible refine (tally.swapIn ia ak p g xs _ HI1.out (by rw [HXL.out]; omega)).mono ?_
            rw [HXE.out]
            rintro e w4 ⟨rfl, hw4⟩
            have HI4 : Aside0 (tally.Is w4 p g (xs.set ia ak)) := ⟨hw4 ▸ HI1.out.set ia _⟩
            have HR4 : Aside0 (Row w4 h xs) := ⟨hw4 ▸ HR1.out.other (Ne.symm HNE2.out) ia _⟩
            have HB4 : Aside0 (Below w.heap.size w w4) := ⟨hw4 ▸ HBL.out.setCell (p := ⟨g, ia, none⟩) HG.out _⟩
            have HQ4 : Aside0 (w4.cell? ⟨wr.heap.size, 1, none⟩ = some (.int .i64 (ia : Int)) ∧ w4.cell? ⟨wr.heap.size, 2, none⟩ = some (.int .u64 ak)) := ⟨by rw [← hw4, World.cell?_setCell_other _ _ _ _ (by simp; have := HGL.out; omega), World.cell?_setCell_other _ _ _ _ (by simp; have := HGL.out; omega)]; have h_ := heap_alloc_new wr (.cells #[.int .i64 ado, .int .i64 (ia : Int), .int .u64 ak] 38 (0, 0)); unfold World.cell?; rw [h_]; exact ⟨rfl, rfl⟩⟩
            clear hw4 hwc1
            have hq1 := HQ4.out.1
            have hq2 := HQ4.out.2
            obtain ⟨hwc4, hwz4⟩ := HR4.out.at_ (i := ia) (by rw [HXL.out]; omega)
            clear hwc hwz
            go_wp2_with fail
            clear hq1 hq2 hwc4 hwz4
            obtain ⟨W0, hW0⟩ : ∃ W0, W0 = w4.setCell ⟨h, ia, none⟩ (.int .u64 ak) := ⟨_, rfl⟩
            rw [← hW0]
            obtain ⟨ys, hys⟩ : ∃ ys, ys = xs.set ia ak := ⟨_, rfl⟩
            have HI0 : Aside0 (tally.Is W0 p g ys) := ⟨by rw [hW0, hys]; exact HI4.out.move (Below.heap_setCell _ ⟨h, ia, none⟩ _ p HNE1.out) (Below.heap_setCell _ ⟨h, ia, none⟩ _ g HNE2.out)⟩
            have HR0 : Aside0 (Row W0 h ys) := ⟨by rw [hW0, hys]; exact HR4.out.set ia _⟩
            have HB0 : Aside0 (Below w.heap.size w W0) := ⟨by rw [hW0]; exact HB4.out.setCell (p := ⟨h, ia, none⟩) HH.out _⟩
            have HQ : Aside0 (W0.cell? ⟨wr.heap.size, 1, none⟩ = some (.int .i64 (ia : Int))) := ⟨by rw [hW0, World.cell?_setCell_other _ _ _ _ (by simp; have := HHL.out; omega)]; exact HQ4.out.1⟩
            have HYL : Aside0 (ys.length = n) := ⟨by rw [hys, List.length_set]; exact HXL.out⟩
            clear hW0 hys HI4 HR4 HB4 HQ4
            go_meet
            exact ⟨rfl, ⟨ys, HYL.out, HI0.out, HR0.out, HQ.out, HB0.out⟩⟩
        have t1 : (ado == 1) = false := beq_eq_false_iff_ne.mpr q0
        clear q0
        by_cases q0 : ado = 2
        · have t2 : (ado == 2) = true := beq_iff_eq.mpr q0
          clear q0
          by_cases rz : x < ak
          · have HRZ := Aside0.mk rz
            clear rz
            as_aux_lemma =>
              go_wp2_with fail
              with_reducible refine (tally.raiseUp ia ak p g xs _ HI1.out (by rw [HXL.out]; omega) (by rw [HXE.out]; have := HRZ.out; omega)).mono ?_
              rintro e w4 ⟨rfl, hw4⟩
              have HI4 : Aside0 (tally.Is w4 p g (xs.set ia ak)) := ⟨hw4 ▸ HI1.out.set ia _⟩
              have HR4 : Aside0 (Row w4 h xs) := ⟨hw4 ▸ HR1.out.other (Ne.symm HNE2.out) ia _⟩
              have HB4 : Aside0 (Below w.heap.size w w4) := ⟨hw4 ▸ HBL.out.setCell (p := ⟨g, ia, none⟩) HG.out _⟩
              have HQ4 : Aside0 (w4.cell? ⟨wr.heap.size, 1, none⟩ = some (.int .i64 (ia : Int)) ∧ w4.cell? ⟨wr.heap.size, 2, none⟩ = some (.int .u64 ak)) := ⟨by rw [← hw4, World.cell?_setCell_other _ _ _ _ (by simp; have := HGL.out; omega), World.cell?_setCell_other _ _ _ _ (by simp; have := HGL.out; omega)]; have h_ := heap_alloc_new wr (.cells #[.int .i64 ado, .int .i64 (ia : Int), .int .u64 ak] 38 (0, 0)); unfold World.cell?; rw [h_]; exact ⟨rfl, rfl⟩⟩
              clear hw4 hwc1
              have hq1 := HQ4.out.1
              have hq2 := HQ4.out.2
              obtain ⟨hwc4, hwz4⟩ := HR4.out.at_ (i := ia) (by rw [HXL.out]; omega)
              clear hwc hwz
              have d3 : decide (x < ak) = true := decide_eq_true (by have := HRZ.out; omega)
              go_wp2_with fail
              clear hq1 hq2 hwc4 hwz4
              obtain ⟨W0, hW0⟩ : ∃ W0, W0 = w4.setCell ⟨h, ia, none⟩ (.int .u64 ak) := ⟨_, rfl⟩
              rw [← hW0]
              obtain ⟨ys, hys⟩ : ∃ ys, ys = xs.set ia ak := ⟨_, rfl⟩
              have HI0 : Aside0 (tally.Is W0 p g ys) := ⟨by rw [hW0, hys]; exact HI4.out.move (Below.heap_setCell _ ⟨h, ia, none⟩ _ p HNE1.out) (Below.heap_setCell _ ⟨h, ia, none⟩ _ g HNE2.out)⟩
              have HR0 : Aside0 (Row W0 h ys) := ⟨by rw [hW0, hys]; exact HR4.out.set ia _⟩
              have HB0 : Aside0 (Below w.heap.size w W0) := ⟨by rw [hW0]; exact HB4.out.setCell (p := ⟨h, ia, none⟩) HH.out _⟩
              have HQ : Aside0 (W0.cell? ⟨wr.heap.size, 1, none⟩ = some (.int .i64 (ia : Int))) := ⟨by rw [hW0, World.cell?_setCell_other _ _ _ _ (by simp; have := HHL.out; omega)]; exact HQ4.out.1⟩
              have HYL : Aside0 (ys.length = n) := ⟨by rw [hys, List.length_set]; exact HXL.out⟩
              clear hW0 hys HI4 HR4 HB4 HQ4
              go_meet
              exact ⟨rfl, ⟨ys, HYL.out, HI0.out, HR0.out, HQ.out, HB0.out⟩⟩
          · have HRZ := Aside0.mk rz
            clear rz
            as_aux_lemma =>
              go_wp2_with fail
              with_reducible refine (tally.raiseNo ia ak p g xs _ HI1.out (by rw [HXL.out]; omega) (by rw [HXE.out]; have := HRZ.out; omega)).mono ?_
              rintro e w4 ⟨rfl, hw4⟩
              have HI0 : Aside0 (tally.Is w4 p g xs) := ⟨hw4 ▸ HI1.out⟩
              have HR0 : Aside0 (Row w4 h xs) := ⟨hw4 ▸ HR1.out⟩
              have HB0 : Aside0 (Below w.heap.size w w4) := ⟨hw4 ▸ HBL.out⟩
              have HQ : Aside0 (w4.cell? ⟨wr.heap.size, 1, none⟩ = some (.int .i64 (ia : Int))) := ⟨hw4 ▸ HQ0.out⟩
              have hq2 : w4.cell? ⟨wr.heap.size, 2, none⟩ = some (.int .u64 ak) := by rw [← hw4]; have h_ := heap_alloc_new wr (.cells #[.int .i64 ado, .int .i64 (ia : Int), .int .u64 ak] 38 (0, 0)); unfold World.cell?; rw [h_]; rfl
              clear hw4 hwc1 hwc hwz
              have d3 : decide (x < ak) = false := decide_eq_false (by have := HRZ.out; omega)
              have hq1 := HQ.out
              go_wp2_with fail
              clear hq1 hq2
              have HYL := HXL
              go_meet
              exact ⟨rfl, ⟨xs, HXL.out, HI0.out, HR0.out, HQ.out, HB0.out⟩⟩
        have t2 : (ado == 2) = false := beq_eq_false_iff_ne.mpr q0
        clear q0
        as_aux_lemma =>
          go_wp2_with fail
          with_reducible refine (tally.getIn ia p g xs _ HI1.out (by rw [HXL.out]; omega)).mono ?_
          rw [HXE.out]
          rintro e w4 ⟨rfl, hw4⟩
          have HI0 : Aside0 (tally.Is w4 p g xs) := ⟨hw4 ▸ HI1.out⟩
          have HR0 : Aside0 (Row w4 h xs) := ⟨hw4 ▸ HR1.out⟩
          have HB0 : Aside0 (Below w.heap.size w w4) := ⟨hw4 ▸ HBL.out⟩
          have HQ : Aside0 (w4.cell? ⟨wr.heap.size, 1, none⟩ = some (.int .i64 (ia : Int))) := ⟨hw4 ▸ HQ0.out⟩
          have hq2 : w4.cell? ⟨wr.heap.size, 2, none⟩ = some (.int .u64 ak) := by rw [← hw4]; have h_ := heap_alloc_new wr (.cells #[.int .i64 ado, .int .i64 (ia : Int), .int .u64 ak] 38 (0, 0)); unfold World.cell?; rw [h_]; rfl
          clear hw4 hwc1 hwc hwz
          have hq1 := HQ.out
          go_wp2_with fail
          clear hq1 hq2
          have HYL := HXL
          go_meet
          exact ⟨rfl, ⟨xs, HXL.out, HI0.out, HR0.out, HQ.out, HB0.out⟩⟩
    · have HO := Aside0.mk hin
      by_cases o1 : 0 ≤ ai
      · have g1 : decide (0 ≤ ai) = true := decide_eq_true o1
        have g2 : decide (ai < (n : Int)) = false := decide_eq_false (by omega)
        clear hin o1
        have HI1 : Aside0 (tally.Is (wr.alloc (.cells #[.int .i64 ado, .int .i64 ai, .int .u64 ak] 38)) p g xs) := ⟨HIS.out.alloc _⟩
        have HR1 : Aside0 (Row (wr.alloc (.cells #[.int .i64 ado, .int .i64 ai, .int .u64 ak] 38)) h xs) := ⟨HROW.out.below (below_alloc (Below.refl _ _) _)⟩
        have HBL : Aside0 (Below w.heap.size w (wr.alloc (.cells #[.int .i64 ado, .int .i64 ai, .int .u64 ak] 38))) := ⟨below_alloc HB.out _⟩
        have HQ0 : Aside0 ((wr.alloc (.cells #[.int .i64 ado, .int .i64 ai, .int .u64 ak] 38)).cell? ⟨wr.heap.size, 1, none⟩ = some (.int .i64 ai)) := ⟨by have h_ := heap_alloc_new wr (.cells #[.int .i64 ado, .int .i64 ai, .int .u64 ak] 38 (0, 0)); unfold World.cell?; rw [h_]; rfl⟩
        have HGL := Aside0.mk HIS.out.lt.2
        have HHL := Aside0.mk (lt_of_block HROW.out)
        go_upto_block 2 with fail
        go_cut [12] (fun s12 wx => s12 = .bool true ∧ Aside0 (Sw w wx p g h wr.heap.size n ai))
        case rest =>
         as_aux_lemma =>
          obtain ⟨rfl, HSW⟩ := hcut
          obtain ⟨ys, hyl, hi0, hr0, hq0, hb0⟩ := HSW.out
          have HYL := Aside0.mk hyl
          have HI0 := Aside0.mk hi0
          have HR0 := Aside0.mk hr0
          have HQ := Aside0.mk hq0
          have HB0 := Aside0.mk hb0
          clear hyl hi0 hr0 hq0 hb0 HSW hx0 hx1 hx2
          go_wp2_with fail
          have HBX : Aside0 (Below wc.heap.size wc wc) := ⟨Below.refl _ _⟩
          obtain ⟨ty, HTY⟩ : ∃ ty, semblancelaw55_TallyAsks.Tot ys ty := ⟨_, rfl⟩
          refine wp_region_held_drew (S := fun w' => w'.cell? ⟨wr.heap.size, 1, none⟩ = some (.int .i64 ai)) (by kernel_rfl) (by exact pw_cell_below (by repeat (first | exact HBX.out | apply below_drew | apply pw_below_drewN | apply below_alloc)) HQ.out) (fun hHeld => ?_)
          refine wpAnyH_take (i := 0) (oi := { dst := some 171, op := Go.Op.move (Go.Operand.tmp 12), type := 4, pos := "law.go:72", after := #[], guard := none }) (v := ?_) rfl (by kernel_rfl) (by kernel_rfl) (by kernel_rfl) (fun _ _ _ h => h) (Or.inl ⟨by rfl, ?hy0⟩) (by assumption) ?_
          case hy0 => intro w_ hSw; (try dsimp only at hSw); go_simp; all_goals (with_reducible rfl)
          (try simp only [Act.put, List.setIfInBounds_toArray, List.set_cons_zero, List.set_cons_succ])
          refine wpAnyH_take (i := 1) (oi := { dst := some 172, op := Go.Op.unOp Go.UnOp.not 4 (Go.Operand.tmp 171), type := 4, pos := "law.go:72", after := #[{ on := 0, ground := Go.Ground.data }], guard := none }) (v := ?_) rfl (by kernel_rfl) (by kernel_rfl) (by kernel_rfl) (fun _ _ _ h => h) (Or.inl ⟨by rfl, ?hy1⟩) (by assumption) ?_
          case hy1 => intro w_ hSw; (try dsimp only at hSw); go_simp; all_goals (with_reducible rfl)
          (try simp only [Act.put, List.setIfInBounds_toArray, List.set_cons_zero, List.set_cons_succ])
          refine wpAnyH_take (i := 2) (oi := { dst := some 173, op := Go.Op.move (Go.Operand.tmp 172), type := 4, pos := "law.go:72", after := #[{ on := 1, ground := Go.Ground.data }], guard := none }) (v := ?_) rfl (by kernel_rfl) (by kernel_rfl) (by kernel_rfl) (fun _ _ _ h => h) (Or.inl ⟨by rfl, ?hy2⟩) (by assumption) ?_
          case hy2 => intro w_ hSw; (try dsimp only at hSw); go_simp; all_goals (with_reducible rfl)
          (try simp only [Act.put, List.setIfInBounds_toArray, List.set_cons_zero, List.set_cons_succ])
          refine wpAnyH_take (i := 3) (oi := { dst := some 174, op := Go.Op.move (Go.Operand.tmp 10), type := 24, pos := "law.go:72", after := #[{ on := 2, ground := Go.Ground.guard }], guard := some (2, false) }) (v := ?_) rfl (by kernel_rfl) (by kernel_rfl) (by kernel_rfl) (fun _ _ _ h => h) (Or.inl ⟨by rfl, ?hy3⟩) (by assumption) ?_
          case hy3 => intro w_ hSw; (try dsimp only at hSw); go_simp; all_goals (with_reducible rfl)
          (try simp only [Act.put, List.setIfInBounds_toArray, List.set_cons_zero, List.set_cons_succ])
          refine wpAnyH_take (i := 4) (oi := { dst := some 175, op := Go.Op.binOp Go.BinOp.eql 24 (Go.Operand.tmp 174) (Go.Operand.const (Go.Value.int Go.IntKind.i64 0)) 24, type := 4, pos := "law.go:72", after := #[{ on := 3, ground := Go.Ground.data }, { on := 2, ground := Go.Ground.guard }], guard := some (2, false) }) (v := ?_) rfl (by kernel_rfl) (by kernel_rfl) (by kernel_rfl) (fun _ _ _ h => h) (Or.inl ⟨by rfl, ?hy4⟩) (by assumption) ?_
          case hy4 => intro w_ hSw; (try dsimp only at hSw); go_simp; all_goals (with_reducible rfl)
          (try simp only [Act.put, List.setIfInBounds_toArray, List.set_cons_zero, List.set_cons_succ])
          refine wpAnyH_take (i := 5) (oi := { dst := some 176, op := Go.Op.move (Go.Operand.tmp 175), type := 4, pos := "law.go:72", after := #[{ on := 4, ground := Go.Ground.data }, { on := 2, ground := Go.Ground.chain }, { on := 2, ground := Go.Ground.guard }], guard := some (2, false) }) (v := ?_) rfl (by kernel_rfl) (by kernel_rfl) (by kernel_rfl) (fun _ _ _ h => h) (Or.inl ⟨by rfl, ?hy5⟩) (by assumption) ?_
          case hy5 => intro w_ hSw; (try dsimp only at hSw); go_simp; all_goals (with_reducible rfl)
          (try simp only [Act.put, List.setIfInBounds_toArray, List.set_cons_zero, List.set_cons_succ])
          refine wpAnyH_take (i := 6) (oi := { dst := some 177, op := Go.Op.move (Go.Operand.tmp 5), type := 31, pos := "law.go:72", after := #[{ on := 5, ground := Go.Ground.guard }], guard := some (5, true) }) (v := undef) rfl (by kernel_rfl) (by kernel_rfl) (by kernel_rfl) (fun _ _ _ h => h) (Or.inr ⟨by rfl, rfl⟩) (by assumption) ?_
          (try simp only [Act.put, List.setIfInBounds_toArray, List.set_cons_zero, List.set_cons_succ])
          refine wpAnyH_take (i := 7) (oi := { dst := some 178, op := Go.Op.fieldAddr 38 (Go.Operand.tmp 9) 1, type := 0, pos := "law.go:72", after := #[{ on := 5, ground := Go.Ground.guard }], guard := some (5, true) }) (v := undef) rfl (by kernel_rfl) (by kernel_rfl) (by kernel_rfl) (fun _ _ _ h => h) (Or.inr ⟨by rfl, rfl⟩) (by assumption) ?_
          (try simp only [Act.put, List.setIfInBounds_toArray, List.set_cons_zero, List.set_cons_succ])
          refine wpAnyH_take (i := 8) (oi := { dst := some 179, op := Go.Op.load 3 (Go.Operand.tmp 178), type := 3, pos := "law.go:72", after := #[{ on := 7, ground := Go.Ground.data }, { on := 5, ground := Go.Ground.guard }], guard := some (5, true) }) (v := undef) rfl (by kernel_rfl) (by kernel_rfl) (by kernel_rfl) (fun _ _ _ h => h) (Or.inr ⟨by rfl, rfl⟩) (by assumption) ?_
          (try simp only [Act.put, List.setIfInBounds_toArray, List.set_cons_zero, List.set_cons_succ])
          refine wpAnyH_take (i := 9) (oi := { dst := some 180, op := Go.Op.call { callee := Go.Callee.value (Go.Operand.func 23), args := #[Go.Operand.tmp 177, Go.Operand.tmp 179], argTypes := #[31, 3] }, type := 36, pos := "law.go:72", after := #[{ on := 6, ground := Go.Ground.data }, { on := 8, ground := Go.Ground.data }, { on := 5, ground := Go.Ground.chain }, { on := 5, ground := Go.Ground.guard }], guard := some (5, true) }) (v := undef) rfl (by kernel_rfl) (by kernel_rfl) (by kernel_rfl) (fun _ _ _ h => h) (Or.inr ⟨by rfl, rfl⟩) (by assumption) ?_
          (try simp only [Act.put, List.setIfInBounds_toArray, List.set_cons_zero, List.set_cons_succ])
          refine wpAnyH_take (i := 10) (oi := { dst := some 181, op := Go.Op.move (Go.Operand.tmp 7), type := 35, pos := "law.go:72", after := #[{ on := 5, ground := Go.Ground.guard }], guard := some (5, true) }) (v := undef) rfl (by kernel_rfl) (by kernel_rfl) (by kernel_rfl) (fun _ _ _ h => h) (Or.inr ⟨by rfl, rfl⟩) (by assumption) ?_
          (try simp only [Act.put, List.setIfInBounds_toArray, List.set_cons_zero, List.set_cons_succ])
          refine wpAnyH_take (i := 11) (oi := { dst := some 182, op := Go.Op.fieldAddr 38 (Go.Operand.tmp 9) 1, type := 0, pos := "law.go:72", after := #[{ on := 5, ground := Go.Ground.guard }], guard := some (5, true) }) (v := undef) rfl (by kernel_rfl) (by kernel_rfl) (by kernel_rfl) (fun _ _ _ h => h) (Or.inr ⟨by rfl, rfl⟩) (by assumption) ?_
          (try simp only [Act.put, List.setIfInBounds_toArray, List.set_cons_zero, List.set_cons_succ])
          refine wpAnyH_take (i := 12) (oi := { dst := some 183, op := Go.Op.load 3 (Go.Operand.tmp 182), type := 3, pos := "law.go:72", after := #[{ on := 11, ground := Go.Ground.data }, { on := 5, ground := Go.Ground.guard }], guard := some (5, true) }) (v := undef) rfl (by kernel_rfl) (by kernel_rfl) (by kernel_rfl) (fun _ _ _ h => h) (Or.inr ⟨by rfl, rfl⟩) (by assumption) ?_
          (try simp only [Act.put, List.setIfInBounds_toArray, List.set_cons_zero, List.set_cons_succ])
          refine wpAnyH_take (i := 13) (oi := { dst := some 184, op := Go.Op.indexAddr 35 (Go.Operand.tmp 181) (Go.Operand.tmp 183), type := 0, pos := "law.go:72", after := #[{ on := 10, ground := Go.Ground.data }, { on := 12, ground := Go.Ground.data }, { on := 5, ground := Go.Ground.guard }], guard := some (5, true) }) (v := undef) rfl (by kernel_rfl) (by kernel_rfl) (by kernel_rfl) (fun _ _ _ h => h) (Or.inr ⟨by rfl, rfl⟩) (by assumption) ?_
          (try simp only [Act.put, List.setIfInBounds_toArray, List.set_cons_zero, List.set_cons_succ])
          refine wpAnyH_take (i := 14) (oi := { dst := some 185, op := Go.Op.load 36 (Go.Operand.tmp 184), type := 36, pos := "law.go:72", after := #[{ on := 13, ground := Go.Ground.data }, { on := 5, ground := Go.Ground.guard }], guard := some (5, true) }) (v := undef) rfl (by kernel_rfl) (by kernel_rfl) (by kernel_rfl) (fun _ _ _ h => h) (Or.inr ⟨by rfl, rfl⟩) (by assumption) ?_
          (try simp only [Act.put, List.setIfInBounds_toArray, List.set_cons_zero, List.set_cons_succ])
          refine wpAnyH_take (i := 15) (oi := { dst := some 186, op := Go.Op.binOp Go.BinOp.neq 36 (Go.Operand.tmp 180) (Go.Operand.tmp 185) 36, type := 4, pos := "law.go:72", after := #[{ on := 9, ground := Go.Ground.data }, { on := 14, ground := Go.Ground.data }, { on := 5, ground := Go.Ground.guard }], guard := some (5, true) }) (v := undef) rfl (by kernel_rfl) (by kernel_rfl) (by kernel_rfl) (fun _ _ _ h => h) (Or.inr ⟨by rfl, rfl⟩) (by assumption) ?_
          (try simp only [Act.put, List.setIfInBounds_toArray, List.set_cons_zero, List.set_cons_succ])
          refine wpAnyH_take (i := 16) (oi := { dst := some 187, op := Go.Op.pick (Go.Operand.tmp 176) (Go.Operand.tmp 186) (Go.Operand.const (Go.Value.bool false)), type := 4, pos := "law.go:72", after := #[{ on := 5, ground := Go.Ground.data }, { on := 15, ground := Go.Ground.data }, { on := 2, ground := Go.Ground.guard }], guard := some (2, false) }) (v := ?_) rfl (by kernel_rfl) (by kernel_rfl) (by kernel_rfl) (fun _ _ _ h => h) (Or.inl ⟨by rfl, ?hy16⟩) (by assumption) ?_
          case hy16 => intro w_ hSw; (try dsimp only at hSw); go_simp; all_goals (with_reducible rfl)
          (try simp only [Act.put, List.setIfInBounds_toArray, List.set_cons_zero, List.set_cons_succ])
          refine wpAnyH_take (i := 17) (oi := { dst := some 188, op := Go.Op.pick (Go.Operand.tmp 173) (Go.Operand.const (Go.Value.bool true)) (Go.Operand.tmp 187), type := 4, pos := "law.go:72", after := #[{ on := 2, ground := Go.Ground.data }, { on := 16, ground := Go.Ground.data }], guard := none }) (v := ?_) rfl (by kernel_rfl) (by kernel_rfl) (by kernel_rfl) (fun _ _ _ h => h) (Or.inl ⟨by rfl, ?hy17⟩) (by assumption) ?_
          case hy17 => intro w_ hSw; (try dsimp only at hSw); go_simp; all_goals (with_reducible rfl)
          (try simp only [Act.put, List.setIfInBounds_toArray, List.set_cons_zero, List.set_cons_succ])
          refine wpAnyH_take (i := 18) (oi := { dst := some 189, op := Go.Op.move (Go.Operand.tmp 188), type := 4, pos := "law.go:72", after := #[{ on := 17, ground := Go.Ground.data }, { on := 9, ground := Go.Ground.chain }], guard := none }) (v := ?_) rfl (by kernel_rfl) (by kernel_rfl) (by kernel_rfl) (fun _ _ _ h => h) (Or.inl ⟨by rfl, ?hy18⟩) (by assumption) ?_
          case hy18 => intro w_ hSw; (try dsimp only at hSw); go_simp; all_goals (with_reducible rfl)
          (try simp only [Act.put, List.setIfInBounds_toArray, List.set_cons_zero, List.set_cons_succ])
          refine wpAnyH_take (i := 19) (oi := { dst := some 190, op := Go.Op.move (Go.Operand.tmp 10), type := 24, pos := "law.go:72", after := #[{ on := 18, ground := Go.Ground.guard }], guard := some (18, false) }) (v := ?_) rfl (by kernel_rfl) (by kernel_rfl) (by kernel_rfl) (fun _ _ _ h => h) (Or.inl ⟨by rfl, ?hy19⟩) (by assumption) ?_
          case hy19 => intro w_ hSw; (try dsimp only at hSw); go_simp; all_goals (with_reducible rfl)
          (try simp only [Act.put, List.setIfInBounds_toArray, List.set_cons_zero, List.set_cons_succ])
          refine wpAnyH_take (i := 20) (oi := { dst := some 191, op := Go.Op.binOp Go.BinOp.neq 24 (Go.Operand.tmp 190) (Go.Operand.const (Go.Value.int Go.IntKind.i64 0)) 24, type := 4, pos := "law.go:72", after := #[{ on := 19, ground := Go.Ground.data }, { on := 18, ground := Go.Ground.guard }], guard := some (18, false) }) (v := ?_) rfl (by kernel_rfl) (by kernel_rfl) (by kernel_rfl) (fun _ _ _ h => h) (Or.inl ⟨by rfl, ?hy20⟩) (by assumption) ?_
          case hy20 => intro w_ hSw; (try dsimp only at hSw); go_simp; all_goals (with_reducible rfl)
          (try simp only [Act.put, List.setIfInBounds_toArray, List.set_cons_zero, List.set_cons_succ])
          refine wpAnyH_take (i := 21) (oi := { dst := some 192, op := Go.Op.move (Go.Operand.tmp 191), type := 4, pos := "law.go:72", after := #[{ on := 20, ground := Go.Ground.data }, { on := 18, ground := Go.Ground.chain }, { on := 18, ground := Go.Ground.guard }], guard := some (18, false) }) (v := ?_) rfl (by kernel_rfl) (by kernel_rfl) (by kernel_rfl) (fun _ _ _ h => h) (Or.inl ⟨by rfl, ?hy21⟩) (by assumption) ?_
          case hy21 => intro w_ hSw; (try dsimp only at hSw); go_simp; all_goals (with_reducible rfl)
          (try simp only [Act.put, List.setIfInBounds_toArray, List.set_cons_zero, List.set_cons_succ])
          refine wpAnyH_take (i := 22) (oi := { dst := some 193, op := Go.Op.move (Go.Operand.tmp 5), type := 31, pos := "law.go:72", after := #[{ on := 21, ground := Go.Ground.guard }], guard := some (21, true) }) (v := ?_) rfl (by kernel_rfl) (by kernel_rfl) (by kernel_rfl) (fun _ _ _ h => h) (Or.inl ⟨by rfl, ?hy22⟩) (by assumption) ?_
          case hy22 => intro w_ hSw; (try dsimp only at hSw); go_simp; all_goals (with_reducible rfl)
          (try simp only [Act.put, List.setIfInBounds_toArray, List.set_cons_zero, List.set_cons_succ])
          refine wpAnyH_take (i := 23) (oi := { dst := some 194, op := Go.Op.fieldAddr 38 (Go.Operand.tmp 9) 1, type := 0, pos := "law.go:72", after := #[{ on := 21, ground := Go.Ground.guard }], guard := some (21, true) }) (v := ?_) rfl (by kernel_rfl) (by kernel_rfl) (by kernel_rfl) (fun _ _ _ h => h) (Or.inl ⟨by rfl, ?hy23⟩) (by assumption) ?_
          case hy23 => intro w_ hSw; (try dsimp only at hSw); go_simp; all_goals (with_reducible rfl)
          (try simp only [Act.put, List.setIfInBounds_toArray, List.set_cons_zero, List.set_cons_succ])
          refine wpAnyH_take (i := 24) (oi := { dst := some 195, op := Go.Op.load 3 (Go.Operand.tmp 194), type := 3, pos := "law.go:72", after := #[{ on := 23, ground := Go.Ground.data }, { on := 21, ground := Go.Ground.guard }], guard := some (21, true) }) (v := ?_) rfl (by kernel_rfl) (by kernel_rfl) (by kernel_rfl) (fun _ _ _ h => h) (Or.inl ⟨by rfl, ?hy24⟩) (by assumption) ?_
          case hy24 => intro w_ hSw; (try dsimp only at hSw); go_simp; all_goals (with_reducible rfl)
          (try simp only [Act.put, List.setIfInBounds_toArray, List.set_cons_zero, List.set_cons_succ])
          refine wpAnyH_ready (rs := [25]) (by kernel_rfl) (by simp) ?_
          refine AllReadyH.cons (o := { dst := some 196, op := Go.Op.call { callee := Go.Callee.value (Go.Operand.func 23), args := #[Go.Operand.tmp 193, Go.Operand.tmp 195], argTypes := #[31, 3] }, type := 36, pos := "law.go:72", after := #[{ on := 22, ground := Go.Ground.data }, { on := 24, ground := Go.Ground.data }, { on := 21, ground := Go.Ground.chain }, { on := 21, ground := Go.Ground.guard }], guard := some (21, true) }) rfl (fun K hK => ?_) AllReadyH.nil
          go_simp
          go_at_call 23
          ((with_reducible refine (tally.getOut ai p g ys _ (by exact HI0.out.below (by repeat (first | exact HBX.out | apply below_drew | apply pw_below_drewN | apply below_alloc))) (by rw [HYL.out]; exact HO.out)).mono ?_); rintro e w' ⟨rfl, rfl⟩)
          (try go_wp2_with fail)
          refine hK.out _ _ (by (try dsimp only); exact pw_cell_below (by repeat (first | exact HBX.out | apply below_drew | apply pw_below_drewN | apply below_alloc)) HQ.out) (fun hHeld2 => ?_)
          clear hK K hHeld
          have hHeld := hHeld2
          clear hHeld2
          (try simp only [Act.put, List.setIfInBounds_toArray, List.set_cons_zero, List.set_cons_succ])
          refine wpAnyH_take (i := 26) (oi := { dst := some 197, op := Go.Op.binOp Go.BinOp.neq 36 (Go.Operand.tmp 196) (Go.Operand.const (Go.Value.int Go.IntKind.u64 0)) 36, type := 4, pos := "law.go:72", after := #[{ on := 25, ground := Go.Ground.data }, { on := 21, ground := Go.Ground.guard }], guard := some (21, true) }) (v := ?_) rfl (by kernel_rfl) (by kernel_rfl) (by kernel_rfl) (fun _ _ _ h => h) (Or.inl ⟨by rfl, ?hy26⟩) (by assumption) ?_
          case hy26 => intro w_ hSw; (try dsimp only at hSw); go_simp; all_goals (with_reducible rfl)
          (try simp only [Act.put, List.setIfInBounds_toArray, List.set_cons_zero, List.set_cons_succ])
          refine wpAnyH_take (i := 27) (oi := { dst := some 198, op := Go.Op.pick (Go.Operand.tmp 192) (Go.Operand.tmp 197) (Go.Operand.const (Go.Value.bool false)), type := 4, pos := "law.go:72", after := #[{ on := 21, ground := Go.Ground.data }, { on := 26, ground := Go.Ground.data }, { on := 18, ground := Go.Ground.guard }], guard := some (18, false) }) (v := ?_) rfl (by kernel_rfl) (by kernel_rfl) (by kernel_rfl) (fun _ _ _ h => h) (Or.inl ⟨by rfl, ?hy27⟩) (by assumption) ?_
          case hy27 => intro w_ hSw; (try dsimp only at hSw); go_simp; all_goals (with_reducible rfl)
          (try simp only [Act.put, List.setIfInBounds_toArray, List.set_cons_zero, List.set_cons_succ])
          refine wpAnyH_take (i := 28) (oi := { dst := some 199, op := Go.Op.pick (Go.Operand.tmp 189) (Go.Operand.const (Go.Value.bool true)) (Go.Operand.tmp 198), type := 4, pos := "law.go:72", after := #[{ on := 18, ground := Go.Ground.data }, { on := 27, ground := Go.Ground.data }], guard := none }) (v := ?_) rfl (by kernel_rfl) (by kernel_rfl) (by kernel_rfl) (fun _ _ _ h => h) (Or.inl ⟨by rfl, ?hy28⟩) (by assumption) ?_
          case hy28 => intro w_ hSw; (try dsimp only at hSw); go_simp; all_goals (with_reducible rfl)
          (try simp only [Act.put, List.setIfInBounds_toArray, List.set_cons_zero, List.set_cons_succ])
          refine wpAnyH_take (i := 29) (oi := { dst := some 200, op := Go.Op.move (Go.Operand.tmp 199), type := 4, pos := "law.go:72", after := #[{ on := 28, ground := Go.Ground.data }, { on := 25, ground := Go.Ground.chain }], guard := none }) (v := ?_) rfl (by kernel_rfl) (by kernel_rfl) (by kernel_rfl) (fun _ _ _ h => h) (Or.inl ⟨by rfl, ?hy29⟩) (by assumption) ?_
          case hy29 => intro w_ hSw; (try dsimp only at hSw); go_simp; all_goals (with_reducible rfl)
          (try simp only [Act.put, List.setIfInBounds_toArray, List.set_cons_zero, List.set_cons_succ])
          refine wpAnyH_take (i := 30) (oi := { dst := some 201, op := Go.Op.move (Go.Operand.tmp 5), type := 31, pos := "law.go:72", after := #[{ on := 29, ground := Go.Ground.guard }], guard := some (29, false) }) (v := ?_) rfl (by kernel_rfl) (by kernel_rfl) (by kernel_rfl) (fun _ _ _ h => h) (Or.inl ⟨by rfl, ?hy30⟩) (by assumption) ?_
          case hy30 => intro w_ hSw; (try dsimp only at hSw); go_simp; all_goals (with_reducible rfl)
          (try simp only [Act.put, List.setIfInBounds_toArray, List.set_cons_zero, List.set_cons_succ])
          refine wpAnyH_take (i := 32) (oi := { dst := some 203, op := Go.Op.move (Go.Operand.tmp 7), type := 35, pos := "law.go:72", after := #[{ on := 29, ground := Go.Ground.guard }], guard := some (29, false) }) (v := ?_) rfl (by kernel_rfl) (by kernel_rfl) (by kernel_rfl) (fun _ _ _ h => h) (Or.inl ⟨by rfl, ?hy32⟩) (by assumption) ?_
          case hy32 => intro w_ hSw; (try dsimp only at hSw); go_simp; all_goals (with_reducible rfl)
          (try simp only [Act.put, List.setIfInBounds_toArray, List.set_cons_zero, List.set_cons_succ])
          refine wpAnyH_ready (rs := [31]) (by kernel_rfl) (by simp) ?_
          refine AllReadyH.cons (o := { dst := some 202, op := Go.Op.call { callee := Go.Callee.value (Go.Operand.func 25), args := #[Go.Operand.tmp 201], argTypes := #[31] }, type := 35, pos := "law.go:72", after := #[{ on := 30, ground := Go.Ground.data }, { on := 29, ground := Go.Ground.chain }, { on := 29, ground := Go.Ground.guard }], guard := some (29, false) }) rfl (fun K hK => ?_) AllReadyH.nil
          go_simp
          go_at_call 25
          ((with_reducible refine (tally.allL p g ys _ (by exact HI0.out.below (by repeat (first | exact HBX.out | apply below_drew | apply pw_below_drewN | apply below_alloc)))).mono ?_); rintro e w3 ⟨va, rfl, hra, hb⟩; obtain ⟨Aa, ca, rfl, hla, hCa⟩ := Kd.R_reads hra; have HCa := Aside0.mk hCa; have HLa := Aside0.mk hla; clear hra hCa hla; have n_ := Aside0.mk (below_then (by repeat (first | exact HBX.out | apply below_drew | apply pw_below_drewN | apply below_alloc)) (Below.size (by repeat (first | exact HBX.out | apply below_drew | apply pw_below_drewN | apply below_alloc))) hb); clear HBX hb; have HBX := n_; clear n_)
          (try go_wp2_with fail)
          refine hK.out _ _ (by (try dsimp only); exact pw_cell_below (by repeat (first | exact HBX.out | apply below_drew | apply pw_below_drewN | apply below_alloc)) HQ.out) (fun hHeld2 => ?_)
          clear hK K hHeld
          have hHeld := hHeld2
          clear hHeld2
          (try simp only [Act.put, List.setIfInBounds_toArray, List.set_cons_zero, List.set_cons_succ])
          refine wpAnyH_ready (rs := [33]) (by kernel_rfl) (by simp) ?_
          refine AllReadyH.cons (o := { dst := some 204, op := Go.Op.call { callee := Go.Callee.value (Go.Operand.func 24), args := #[Go.Operand.tmp 202, Go.Operand.tmp 203], argTypes := #[35, 35] }, type := 4, pos := "law.go:72", after := #[{ on := 31, ground := Go.Ground.data }, { on := 32, ground := Go.Ground.data }, { on := 31, ground := Go.Ground.chain }, { on := 29, ground := Go.Ground.guard }], guard := some (29, false) }) rfl (fun K hK => ?_) AllReadyH.nil
          go_simp
          go_at_call 24
          ((with_reducible refine (sameC n Aa ca ys h _ (by repeat (first | exact HCa.out | apply Kd.C_drew | apply Kd.C_drewN)) HLa.out (by exact HR0.out.below (by repeat (first | exact HBX.out | apply below_drew | apply pw_below_drewN | apply below_alloc))) HYL.out hn2).mono ?_); rintro e w' ⟨rfl, ⟨m, rfl⟩⟩)
          (try go_wp2_with fail)
          refine hK.out _ _ (by (try dsimp only); exact pw_cell_below (by repeat (first | exact HBX.out | apply below_drew | apply pw_below_drewN | apply below_alloc)) HQ.out) (fun hHeld2 => ?_)
          clear hK K hHeld
          have hHeld := hHeld2
          clear hHeld2
          (try simp only [Act.put, List.setIfInBounds_toArray, List.set_cons_zero, List.set_cons_succ])
          refine wpAnyH_take (i := 34) (oi := { dst := some 205, op := Go.Op.unOp Go.UnOp.not 4 (Go.Operand.tmp 204), type := 4, pos := "law.go:72", after := #[{ on := 33, ground := Go.Ground.data }, { on := 29, ground := Go.Ground.guard }], guard := some (29, false) }) (v := ?_) rfl (by kernel_rfl) (by kernel_rfl) (by kernel_rfl) (fun _ _ _ h => h) (Or.inl ⟨by rfl, ?hy34⟩) (by assumption) ?_
          case hy34 => intro w_ hSw; (try dsimp only at hSw); go_simp; all_goals (with_reducible rfl)
          (try simp only [Act.put, List.setIfInBounds_toArray, List.set_cons_zero, List.set_cons_succ])
          refine wpAnyH_take (i := 35) (oi := { dst := some 206, op := Go.Op.pick (Go.Operand.tmp 200) (Go.Operand.const (Go.Value.bool true)) (Go.Operand.tmp 205), type := 4, pos := "law.go:72", after := #[{ on := 29, ground := Go.Ground.data }, { on := 34, ground := Go.Ground.data }], guard := none }) (v := ?_) rfl (by kernel_rfl) (by kernel_rfl) (by kernel_rfl) (fun _ _ _ h => h) (Or.inl ⟨by rfl, ?hy35⟩) (by assumption) ?_
          case hy35 => intro w_ hSw; (try dsimp only at hSw); go_simp; all_goals (with_reducible rfl)
          (try simp only [Act.put, List.setIfInBounds_toArray, List.set_cons_zero, List.set_cons_succ])
          refine wpAnyH_take (i := 36) (oi := { dst := some 207, op := Go.Op.move (Go.Operand.tmp 206), type := 4, pos := "law.go:72", after := #[{ on := 35, ground := Go.Ground.data }, { on := 33, ground := Go.Ground.chain }], guard := none }) (v := ?_) rfl (by kernel_rfl) (by kernel_rfl) (by kernel_rfl) (fun _ _ _ h => h) (Or.inl ⟨by rfl, ?hy36⟩) (by assumption) ?_
          case hy36 => intro w_ hSw; (try dsimp only at hSw); go_simp; all_goals (with_reducible rfl)
          (try simp only [Act.put, List.setIfInBounds_toArray, List.set_cons_zero, List.set_cons_succ])
          refine wpAnyH_take (i := 37) (oi := { dst := some 208, op := Go.Op.move (Go.Operand.tmp 5), type := 31, pos := "law.go:72", after := #[{ on := 36, ground := Go.Ground.guard }], guard := some (36, false) }) (v := ?_) rfl (by kernel_rfl) (by kernel_rfl) (by kernel_rfl) (fun _ _ _ h => h) (Or.inl ⟨by rfl, ?hy37⟩) (by assumption) ?_
          case hy37 => intro w_ hSw; (try dsimp only at hSw); go_simp; all_goals (with_reducible rfl)
          (try simp only [Act.put, List.setIfInBounds_toArray, List.set_cons_zero, List.set_cons_succ])
          refine wpAnyH_take (i := 39) (oi := { dst := some 210, op := Go.Op.move (Go.Operand.tmp 7), type := 35, pos := "law.go:72", after := #[{ on := 36, ground := Go.Ground.guard }], guard := some (36, false) }) (v := ?_) rfl (by kernel_rfl) (by kernel_rfl) (by kernel_rfl) (fun _ _ _ h => h) (Or.inl ⟨by rfl, ?hy39⟩) (by assumption) ?_
          case hy39 => intro w_ hSw; (try dsimp only at hSw); go_simp; all_goals (with_reducible rfl)
          (try simp only [Act.put, List.setIfInBounds_toArray, List.set_cons_zero, List.set_cons_succ])
          refine wpAnyH_ready (rs := [38]) (by kernel_rfl) (by simp) ?_
          refine AllReadyH.cons (o := { dst := some 209, op := Go.Op.call { callee := Go.Callee.value (Go.Operand.func 26), args := #[Go.Operand.tmp 208], argTypes := #[31] }, type := 36, pos := "law.go:72", after := #[{ on := 37, ground := Go.Ground.data }, { on := 36, ground := Go.Ground.chain }, { on := 36, ground := Go.Ground.guard }], guard := some (36, false) }) rfl (fun K hK => ?_) AllReadyH.nil
          go_simp
          go_at_call 26
          ((with_reducible refine (tally.totalL p g ys _ (by exact HI0.out.below (by repeat (first | exact HBX.out | apply below_drew | apply pw_below_drewN | apply below_alloc)))).mono ?_); rw [show Go.Proofs.Ytjlegibfeenglaa.XTallyPlain.total ys = ty from HTY]; rintro e w5 ⟨rfl, hb⟩; have n_ := Aside0.mk (below_then (by repeat (first | exact HBX.out | apply below_drew | apply pw_below_drewN | apply below_alloc)) (Below.size (by repeat (first | exact HBX.out | apply below_drew | apply pw_below_drewN | apply below_alloc))) hb); clear HBX hb; have HBX := n_; clear n_)
          (try go_wp2_with fail)
          refine hK.out _ _ (by (try dsimp only); exact pw_cell_below (by repeat (first | exact HBX.out | apply below_drew | apply pw_below_drewN | apply below_alloc)) HQ.out) (fun hHeld2 => ?_)
          clear hK K hHeld
          have hHeld := hHeld2
          clear hHeld2
          (try simp only [Act.put, List.setIfInBounds_toArray, List.set_cons_zero, List.set_cons_succ])
          refine wpAnyH_ready (rs := [40]) (by kernel_rfl) (by simp) ?_
          refine AllReadyH.cons (o := { dst := some 211, op := Go.Op.call { callee := Go.Callee.value (Go.Operand.func 27), args := #[Go.Operand.tmp 210], argTypes := #[35] }, type := 36, pos := "law.go:72", after := #[{ on := 39, ground := Go.Ground.data }, { on := 38, ground := Go.Ground.chain }, { on := 36, ground := Go.Ground.guard }], guard := some (36, false) }) rfl (fun K hK => ?_) AllReadyH.nil
          go_simp
          go_at_call 27
          ((with_reducible refine (totC n ys h ty _ (by exact HR0.out.below (by repeat (first | exact HBX.out | apply below_drew | apply pw_below_drewN | apply below_alloc))) HYL.out hn2 HTY).mono ?_); rintro e w' ⟨rfl, ⟨m2, rfl⟩⟩)
          (try go_wp2_with fail)
          refine hK.out _ _ (by (try dsimp only); exact pw_cell_below (by repeat (first | exact HBX.out | apply below_drew | apply pw_below_drewN | apply below_alloc)) HQ.out) (fun hHeld2 => ?_)
          clear hK K hHeld
          have hHeld := hHeld2
          clear hHeld2
          (try simp only [Act.put, List.setIfInBounds_toArray, List.set_cons_zero, List.set_cons_succ])
          refine wpAnyH_take (i := 41) (oi := { dst := some 212, op := Go.Op.binOp Go.BinOp.neq 36 (Go.Operand.tmp 209) (Go.Operand.tmp 211) 36, type := 4, pos := "law.go:72", after := #[{ on := 38, ground := Go.Ground.data }, { on := 40, ground := Go.Ground.data }, { on := 36, ground := Go.Ground.guard }], guard := some (36, false) }) (v := ?_) rfl (by kernel_rfl) (by kernel_rfl) (by kernel_rfl) (fun _ _ _ h => h) (Or.inl ⟨by rfl, ?hy41⟩) (by assumption) ?_
          case hy41 => intro w_ hSw; (try dsimp only at hSw); go_simp; all_goals (with_reducible rfl)
          (try simp only [Act.put, List.setIfInBounds_toArray, List.set_cons_zero, List.set_cons_succ])
          refine wpAnyH_take (i := 42) (oi := { dst := some 213, op := Go.Op.pick (Go.Operand.tmp 207) (Go.Operand.const (Go.Value.bool true)) (Go.Operand.tmp 212), type := 4, pos := "law.go:72", after := #[{ on := 36, ground := Go.Ground.data }, { on := 41, ground := Go.Ground.data }], guard := none }) (v := ?_) rfl (by kernel_rfl) (by kernel_rfl) (by kernel_rfl) (fun _ _ _ h => h) (Or.inl ⟨by rfl, ?hy42⟩) (by assumption) ?_
          case hy42 => intro w_ hSw; (try dsimp only at hSw); go_simp; all_goals (with_reducible rfl)
          (try simp only [Act.put, List.setIfInBounds_toArray, List.set_cons_zero, List.set_cons_succ])
          refine wpAnyH_done (by kernel_rfl) ?_ _
          clear hHeld
          go_wp2_with fail
          go_roundg (l1.length - (i + 1))
          case measure => have := HK.out; omega
          case rel => exact ⟨_, i + 1, ys, rfl, ⟨rfl⟩, ⟨hi⟩, by go_num, HYL, ⟨HI0.out.below (by repeat (first | exact HBX.out | apply below_drew | apply pw_below_drewN | apply below_alloc))⟩, ⟨HR0.out.below (by repeat (first | exact HBX.out | apply below_drew | apply pw_below_drewN | apply below_alloc))⟩, ⟨below_then HB0.out HB0.out.size (by repeat (first | exact HBX.out | apply below_drew | apply pw_below_drewN | apply below_alloc))⟩⟩
        case first =>
          by_cases q0 : ado = 0
          · have t0 : (ado == 0) = true := beq_iff_eq.mpr q0
            clear q0
            as_aux_lemma =>
              go_wp2_with fail
              with_reducible refine (tally.addOut ai ak p g xs _ HI1.out (by rw [HXL.out]; exact HO.out)).mono ?_
              rintro e w4 ⟨rfl, hw4⟩
              have HI0 : Aside0 (tally.Is w4 p g xs) := ⟨hw4 ▸ HI1.out⟩
              have HR0 : Aside0 (Row w4 h xs) := ⟨hw4 ▸ HR1.out⟩
              have HB0 : Aside0 (Below w.heap.size w w4) := ⟨hw4 ▸ HBL.out⟩
              have HQ : Aside0 (w4.cell? ⟨wr.heap.size, 1, none⟩ = some (.int .i64 ai)) := ⟨hw4 ▸ HQ0.out⟩
              have hq2 : w4.cell? ⟨wr.heap.size, 2, none⟩ = some (.int .u64 ak) := by rw [← hw4]; have h_ := heap_alloc_new wr (.cells #[.int .i64 ado, .int .i64 ai, .int .u64 ak] 38 (0, 0)); unfold World.cell?; rw [h_]; rfl
              clear hw4
              have hq1 := HQ.out
              go_wp2_with fail
              clear hq1 hq2
              have HYL := HXL
              go_meet
              exact ⟨rfl, ⟨xs, HXL.out, HI0.out, HR0.out, HQ.out, HB0.out⟩⟩
          have t0 : (ado == 0) = false := beq_eq_false_iff_ne.mpr q0
          clear q0
          by_cases q0 : ado = 1
          · have t1 : (ado == 1) = true := beq_iff_eq.mpr q0
            clear q0
            as_aux_lemma =>
              go_wp2_with fail
              with_reducible refine (tally.swapOut ai ak p g xs _ HI1.out (by rw [HXL.out]; exact HO.out)).mono ?_
              rintro e w4 ⟨rfl, hw4⟩
              have HI0 : Aside0 (tally.Is w4 p g xs) := ⟨hw4 ▸ HI1.out⟩
              have HR0 : Aside0 (Row w4 h xs) := ⟨hw4 ▸ HR1.out⟩
              have HB0 : Aside0 (Below w.heap.size w w4) := ⟨hw4 ▸ HBL.out⟩
              have HQ : Aside0 (w4.cell? ⟨wr.heap.size, 1, none⟩ = some (.int .i64 ai)) := ⟨hw4 ▸ HQ0.out⟩
              have hq2 : w4.cell? ⟨wr.heap.size, 2, none⟩ = some (.int .u64 ak) := by rw [← hw4]; have h_ := heap_alloc_new wr (.cells #[.int .i64 ado, .int .i64 ai, .int .u64 ak] 38 (0, 0)); unfold World.cell?; rw [h_]; rfl
              clear hw4
              have hq1 := HQ.out
              go_wp2_with fail
              clear hq1 hq2
              have HYL := HXL
              go_meet
              exact ⟨rfl, ⟨xs, HXL.out, HI0.out, HR0.out, HQ.out, HB0.out⟩⟩
          have t1 : (ado == 1) = false := beq_eq_false_iff_ne.mpr q0
          clear q0
          by_cases q0 : ado = 2
          · have t2 : (ado == 2) = true := beq_iff_eq.mpr q0
            clear q0
            as_aux_lemma =>
              go_wp2_with fail
              with_reducible refine (tally.raiseOut ai ak p g xs _ HI1.out (by rw [HXL.out]; exact HO.out)).mono ?_
              rintro e w4 ⟨rfl, hw4⟩
              have HI0 : Aside0 (tally.Is w4 p g xs) := ⟨hw4 ▸ HI1.out⟩
              have HR0 : Aside0 (Row w4 h xs) := ⟨hw4 ▸ HR1.out⟩
              have HB0 : Aside0 (Below w.heap.size w w4) := ⟨hw4 ▸ HBL.out⟩
              have HQ : Aside0 (w4.cell? ⟨wr.heap.size, 1, none⟩ = some (.int .i64 ai)) := ⟨hw4 ▸ HQ0.out⟩
              have hq2 : w4.cell? ⟨wr.heap.size, 2, none⟩ = some (.int .u64 ak) := by rw [← hw4]; have h_ := heap_alloc_new wr (.cells #[.int .i64 ado, .int .i64 ai, .int .u64 ak] 38 (0, 0)); unfold World.cell?; rw [h_]; rfl
              clear hw4
              have hq1 := HQ.out
              go_wp2_with fail
              clear hq1 hq2
              have HYL := HXL
              go_meet
              exact ⟨rfl, ⟨xs, HXL.out, HI0.out, HR0.out, HQ.out, HB0.out⟩⟩
          have t2 : (ado == 2) = false := beq_eq_false_iff_ne.mpr q0
          clear q0
          as_aux_lemma =>
            go_wp2_with fail
            with_reducible refine (tally.getOut ai p g xs _ HI1.out (by rw [HXL.out]; exact HO.out)).mono ?_
            rintro e w4 ⟨rfl, hw4⟩
            have HI0 : Aside0 (tally.Is w4 p g xs) := ⟨hw4 ▸ HI1.out⟩
            have HR0 : Aside0 (Row w4 h xs) := ⟨hw4 ▸ HR1.out⟩
            have HB0 : Aside0 (Below w.heap.size w w4) := ⟨hw4 ▸ HBL.out⟩
            have HQ : Aside0 (w4.cell? ⟨wr.heap.size, 1, none⟩ = some (.int .i64 ai)) := ⟨hw4 ▸ HQ0.out⟩
            have hq2 : w4.cell? ⟨wr.heap.size, 2, none⟩ = some (.int .u64 ak) := by rw [← hw4]; have h_ := heap_alloc_new wr (.cells #[.int .i64 ado, .int .i64 ai, .int .u64 ak] 38 (0, 0)); unfold World.cell?; rw [h_]; rfl
            clear hw4
            have hq1 := HQ.out
            go_wp2_with fail
            clear hq1 hq2
            have HYL := HXL
            go_meet
            exact ⟨rfl, ⟨xs, HXL.out, HI0.out, HR0.out, HQ.out, HB0.out⟩⟩
      · have g1 : decide (0 ≤ ai) = false := decide_eq_false o1
        clear hin o1
        have HI1 : Aside0 (tally.Is (wr.alloc (.cells #[.int .i64 ado, .int .i64 ai, .int .u64 ak] 38)) p g xs) := ⟨HIS.out.alloc _⟩
        have HR1 : Aside0 (Row (wr.alloc (.cells #[.int .i64 ado, .int .i64 ai, .int .u64 ak] 38)) h xs) := ⟨HROW.out.below (below_alloc (Below.refl _ _) _)⟩
        have HBL : Aside0 (Below w.heap.size w (wr.alloc (.cells #[.int .i64 ado, .int .i64 ai, .int .u64 ak] 38))) := ⟨below_alloc HB.out _⟩
        have HQ0 : Aside0 ((wr.alloc (.cells #[.int .i64 ado, .int .i64 ai, .int .u64 ak] 38)).cell? ⟨wr.heap.size, 1, none⟩ = some (.int .i64 ai)) := ⟨by have h_ := heap_alloc_new wr (.cells #[.int .i64 ado, .int .i64 ai, .int .u64 ak] 38 (0, 0)); unfold World.cell?; rw [h_]; rfl⟩
        have HGL := Aside0.mk HIS.out.lt.2
        have HHL := Aside0.mk (lt_of_block HROW.out)
        go_upto_block 2 with fail
        go_cut [12] (fun s12 wx => s12 = .bool true ∧ Aside0 (Sw w wx p g h wr.heap.size n ai))
        case rest =>
         as_aux_lemma =>
          obtain ⟨rfl, HSW⟩ := hcut
          obtain ⟨ys, hyl, hi0, hr0, hq0, hb0⟩ := HSW.out
          have HYL := Aside0.mk hyl
          have HI0 := Aside0.mk hi0
          have HR0 := Aside0.mk hr0
          have HQ := Aside0.mk hq0
          have HB0 := Aside0.mk hb0
          clear hyl hi0 hr0 hq0 hb0 HSW hx0 hx1 hx2
          go_wp2_with fail
          have HBX : Aside0 (Below wc.heap.size wc wc) := ⟨Below.refl _ _⟩
          obtain ⟨ty, HTY⟩ : ∃ ty, semblancelaw55_TallyAsks.Tot ys ty := ⟨_, rfl⟩
          refine wp_region_held_drew (S := fun w' => w'.cell? ⟨wr.heap.size, 1, none⟩ = some (.int .i64 ai)) (by kernel_rfl) (by exact pw_cell_below (by repeat (first | exact HBX.out | apply below_drew | apply pw_below_drewN | apply below_alloc)) HQ.out) (fun hHeld => ?_)
          refine wpAnyH_take (i := 0) (oi := { dst := some 171, op := Go.Op.move (Go.Operand.tmp 12), type := 4, pos := "law.go:72", after := #[], guard := none }) (v := ?_) rfl (by kernel_rfl) (by kernel_rfl) (by kernel_rfl) (fun _ _ _ h => h) (Or.inl ⟨by rfl, ?hy0⟩) (by assumption) ?_
          case hy0 => intro w_ hSw; (try dsimp only at hSw); go_simp; all_goals (with_reducible rfl)
          (try simp only [Act.put, List.setIfInBounds_toArray, List.set_cons_zero, List.set_cons_succ])
          refine wpAnyH_take (i := 1) (oi := { dst := some 172, op := Go.Op.unOp Go.UnOp.not 4 (Go.Operand.tmp 171), type := 4, pos := "law.go:72", after := #[{ on := 0, ground := Go.Ground.data }], guard := none }) (v := ?_) rfl (by kernel_rfl) (by kernel_rfl) (by kernel_rfl) (fun _ _ _ h => h) (Or.inl ⟨by rfl, ?hy1⟩) (by assumption) ?_
          case hy1 => intro w_ hSw; (try dsimp only at hSw); go_simp; all_goals (with_reducible rfl)
          (try simp only [Act.put, List.setIfInBounds_toArray, List.set_cons_zero, List.set_cons_succ])
          refine wpAnyH_take (i := 2) (oi := { dst := some 173, op := Go.Op.move (Go.Operand.tmp 172), type := 4, pos := "law.go:72", after := #[{ on := 1, ground := Go.Ground.data }], guard := none }) (v := ?_) rfl (by kernel_rfl) (by kernel_rfl) (by kernel_rfl) (fun _ _ _ h => h) (Or.inl ⟨by rfl, ?hy2⟩) (by assumption) ?_
          case hy2 => intro w_ hSw; (try dsimp only at hSw); go_simp; all_goals (with_reducible rfl)
          (try simp only [Act.put, List.setIfInBounds_toArray, List.set_cons_zero, List.set_cons_succ])
          refine wpAnyH_take (i := 3) (oi := { dst := some 174, op := Go.Op.move (Go.Operand.tmp 10), type := 24, pos := "law.go:72", after := #[{ on := 2, ground := Go.Ground.guard }], guard := some (2, false) }) (v := ?_) rfl (by kernel_rfl) (by kernel_rfl) (by kernel_rfl) (fun _ _ _ h => h) (Or.inl ⟨by rfl, ?hy3⟩) (by assumption) ?_
          case hy3 => intro w_ hSw; (try dsimp only at hSw); go_simp; all_goals (with_reducible rfl)
          (try simp only [Act.put, List.setIfInBounds_toArray, List.set_cons_zero, List.set_cons_succ])
          refine wpAnyH_take (i := 4) (oi := { dst := some 175, op := Go.Op.binOp Go.BinOp.eql 24 (Go.Operand.tmp 174) (Go.Operand.const (Go.Value.int Go.IntKind.i64 0)) 24, type := 4, pos := "law.go:72", after := #[{ on := 3, ground := Go.Ground.data }, { on := 2, ground := Go.Ground.guard }], guard := some (2, false) }) (v := ?_) rfl (by kernel_rfl) (by kernel_rfl) (by kernel_rfl) (fun _ _ _ h => h) (Or.inl ⟨by rfl, ?hy4⟩) (by assumption) ?_
          case hy4 => intro w_ hSw; (try dsimp only at hSw); go_simp; all_goals (with_reducible rfl)
          (try simp only [Act.put, List.setIfInBounds_toArray, List.set_cons_zero, List.set_cons_succ])
          refine wpAnyH_take (i := 5) (oi := { dst := some 176, op := Go.Op.move (Go.Operand.tmp 175), type := 4, pos := "law.go:72", after := #[{ on := 4, ground := Go.Ground.data }, { on := 2, ground := Go.Ground.chain }, { on := 2, ground := Go.Ground.guard }], guard := some (2, false) }) (v := ?_) rfl (by kernel_rfl) (by kernel_rfl) (by kernel_rfl) (fun _ _ _ h => h) (Or.inl ⟨by rfl, ?hy5⟩) (by assumption) ?_
          case hy5 => intro w_ hSw; (try dsimp only at hSw); go_simp; all_goals (with_reducible rfl)
          (try simp only [Act.put, List.setIfInBounds_toArray, List.set_cons_zero, List.set_cons_succ])
          refine wpAnyH_take (i := 6) (oi := { dst := some 177, op := Go.Op.move (Go.Operand.tmp 5), type := 31, pos := "law.go:72", after := #[{ on := 5, ground := Go.Ground.guard }], guard := some (5, true) }) (v := undef) rfl (by kernel_rfl) (by kernel_rfl) (by kernel_rfl) (fun _ _ _ h => h) (Or.inr ⟨by rfl, rfl⟩) (by assumption) ?_
          (try simp only [Act.put, List.setIfInBounds_toArray, List.set_cons_zero, List.set_cons_succ])
          refine wpAnyH_take (i := 7) (oi := { dst := some 178, op := Go.Op.fieldAddr 38 (Go.Operand.tmp 9) 1, type := 0, pos := "law.go:72", after := #[{ on := 5, ground := Go.Ground.guard }], guard := some (5, true) }) (v := undef) rfl (by kernel_rfl) (by kernel_rfl) (by kernel_rfl) (fun _ _ _ h => h) (Or.inr ⟨by rfl, rfl⟩) (by assumption) ?_
          (try simp only [Act.put, List.setIfInBounds_toArray, List.set_cons_zero, List.set_cons_succ])
          refine wpAnyH_take (i := 8) (oi := { dst := some 179, op := Go.Op.load 3 (Go.Operand.tmp 178), type := 3, pos := "law.go:72", after := #[{ on := 7, ground := Go.Ground.data }, { on := 5, ground := Go.Ground.guard }], guard := some (5, true) }) (v := undef) rfl (by kernel_rfl) (by kernel_rfl) (by kernel_rfl) (fun _ _ _ h => h) (Or.inr ⟨by rfl, rfl⟩) (by assumption) ?_
          (try simp only [Act.put, List.setIfInBounds_toArray, List.set_cons_zero, List.set_cons_succ])
          refine wpAnyH_take (i := 9) (oi := { dst := some 180, op := Go.Op.call { callee := Go.Callee.value (Go.Operand.func 23), args := #[Go.Operand.tmp 177, Go.Operand.tmp 179], argTypes := #[31, 3] }, type := 36, pos := "law.go:72", after := #[{ on := 6, ground := Go.Ground.data }, { on := 8, ground := Go.Ground.data }, { on := 5, ground := Go.Ground.chain }, { on := 5, ground := Go.Ground.guard }], guard := some (5, true) }) (v := undef) rfl (by kernel_rfl) (by kernel_rfl) (by kernel_rfl) (fun _ _ _ h => h) (Or.inr ⟨by rfl, rfl⟩) (by assumption) ?_
          (try simp only [Act.put, List.setIfInBounds_toArray, List.set_cons_zero, List.set_cons_succ])
          refine wpAnyH_take (i := 10) (oi := { dst := some 181, op := Go.Op.move (Go.Operand.tmp 7), type := 35, pos := "law.go:72", after := #[{ on := 5, ground := Go.Ground.guard }], guard := some (5, true) }) (v := undef) rfl (by kernel_rfl) (by kernel_rfl) (by kernel_rfl) (fun _ _ _ h => h) (Or.inr ⟨by rfl, rfl⟩) (by assumption) ?_
          (try simp only [Act.put, List.setIfInBounds_toArray, List.set_cons_zero, List.set_cons_succ])
          refine wpAnyH_take (i := 11) (oi := { dst := some 182, op := Go.Op.fieldAddr 38 (Go.Operand.tmp 9) 1, type := 0, pos := "law.go:72", after := #[{ on := 5, ground := Go.Ground.guard }], guard := some (5, true) }) (v := undef) rfl (by kernel_rfl) (by kernel_rfl) (by kernel_rfl) (fun _ _ _ h => h) (Or.inr ⟨by rfl, rfl⟩) (by assumption) ?_
          (try simp only [Act.put, List.setIfInBounds_toArray, List.set_cons_zero, List.set_cons_succ])
          refine wpAnyH_take (i := 12) (oi := { dst := some 183, op := Go.Op.load 3 (Go.Operand.tmp 182), type := 3, pos := "law.go:72", after := #[{ on := 11, ground := Go.Ground.data }, { on := 5, ground := Go.Ground.guard }], guard := some (5, true) }) (v := undef) rfl (by kernel_rfl) (by kernel_rfl) (by kernel_rfl) (fun _ _ _ h => h) (Or.inr ⟨by rfl, rfl⟩) (by assumption) ?_
          (try simp only [Act.put, List.setIfInBounds_toArray, List.set_cons_zero, List.set_cons_succ])
          refine wpAnyH_take (i := 13) (oi := { dst := some 184, op := Go.Op.indexAddr 35 (Go.Operand.tmp 181) (Go.Operand.tmp 183), type := 0, pos := "law.go:72", after := #[{ on := 10, ground := Go.Ground.data }, { on := 12, ground := Go.Ground.data }, { on := 5, ground := Go.Ground.guard }], guard := some (5, true) }) (v := undef) rfl (by kernel_rfl) (by kernel_rfl) (by kernel_rfl) (fun _ _ _ h => h) (Or.inr ⟨by rfl, rfl⟩) (by assumption) ?_
          (try simp only [Act.put, List.setIfInBounds_toArray, List.set_cons_zero, List.set_cons_succ])
          refine wpAnyH_take (i := 14) (oi := { dst := some 185, op := Go.Op.load 36 (Go.Operand.tmp 184), type := 36, pos := "law.go:72", after := #[{ on := 13, ground := Go.Ground.data }, { on := 5, ground := Go.Ground.guard }], guard := some (5, true) }) (v := undef) rfl (by kernel_rfl) (by kernel_rfl) (by kernel_rfl) (fun _ _ _ h => h) (Or.inr ⟨by rfl, rfl⟩) (by assumption) ?_
          (try simp only [Act.put, List.setIfInBounds_toArray, List.set_cons_zero, List.set_cons_succ])
          refine wpAnyH_take (i := 15) (oi := { dst := some 186, op := Go.Op.binOp Go.BinOp.neq 36 (Go.Operand.tmp 180) (Go.Operand.tmp 185) 36, type := 4, pos := "law.go:72", after := #[{ on := 9, ground := Go.Ground.data }, { on := 14, ground := Go.Ground.data }, { on := 5, ground := Go.Ground.guard }], guard := some (5, true) }) (v := undef) rfl (by kernel_rfl) (by kernel_rfl) (by kernel_rfl) (fun _ _ _ h => h) (Or.inr ⟨by rfl, rfl⟩) (by assumption) ?_
          (try simp only [Act.put, List.setIfInBounds_toArray, List.set_cons_zero, List.set_cons_succ])
          refine wpAnyH_take (i := 16) (oi := { dst := some 187, op := Go.Op.pick (Go.Operand.tmp 176) (Go.Operand.tmp 186) (Go.Operand.const (Go.Value.bool false)), type := 4, pos := "law.go:72", after := #[{ on := 5, ground := Go.Ground.data }, { on := 15, ground := Go.Ground.data }, { on := 2, ground := Go.Ground.guard }], guard := some (2, false) }) (v := ?_) rfl (by kernel_rfl) (by kernel_rfl) (by kernel_rfl) (fun _ _ _ h => h) (Or.inl ⟨by rfl, ?hy16⟩) (by assumption) ?_
          case hy16 => intro w_ hSw; (try dsimp only at hSw); go_simp; all_goals (with_reducible rfl)
          (try simp only [Act.put, List.setIfInBounds_toArray, List.set_cons_zero, List.set_cons_succ])
          refine wpAnyH_take (i := 17) (oi := { dst := some 188, op := Go.Op.pick (Go.Operand.tmp 173) (Go.Operand.const (Go.Value.bool true)) (Go.Operand.tmp 187), type := 4, pos := "law.go:72", after := #[{ on := 2, ground := Go.Ground.data }, { on := 16, ground := Go.Ground.data }], guard := none }) (v := ?_) rfl (by kernel_rfl) (by kernel_rfl) (by kernel_rfl) (fun _ _ _ h => h) (Or.inl ⟨by rfl, ?hy17⟩) (by assumption) ?_
          case hy17 => intro w_ hSw; (try dsimp only at hSw); go_simp; all_goals (with_reducible rfl)
          (try simp only [Act.put, List.setIfInBounds_toArray, List.set_cons_zero, List.set_cons_succ])
          refine wpAnyH_take (i := 18) (oi := { dst := some 189, op := Go.Op.move (Go.Operand.tmp 188), type := 4, pos := "law.go:72", after := #[{ on := 17, ground := Go.Ground.data }, { on := 9, ground := Go.Ground.chain }], guard := none }) (v := ?_) rfl (by kernel_rfl) (by kernel_rfl) (by kernel_rfl) (fun _ _ _ h => h) (Or.inl ⟨by rfl, ?hy18⟩) (by assumption) ?_
          case hy18 => intro w_ hSw; (try dsimp only at hSw); go_simp; all_goals (with_reducible rfl)
          (try simp only [Act.put, List.setIfInBounds_toArray, List.set_cons_zero, List.set_cons_succ])
          refine wpAnyH_take (i := 19) (oi := { dst := some 190, op := Go.Op.move (Go.Operand.tmp 10), type := 24, pos := "law.go:72", after := #[{ on := 18, ground := Go.Ground.guard }], guard := some (18, false) }) (v := ?_) rfl (by kernel_rfl) (by kernel_rfl) (by kernel_rfl) (fun _ _ _ h => h) (Or.inl ⟨by rfl, ?hy19⟩) (by assumption) ?_
          case hy19 => intro w_ hSw; (try dsimp only at hSw); go_simp; all_goals (with_reducible rfl)
          (try simp only [Act.put, List.setIfInBounds_toArray, List.set_cons_zero, List.set_cons_succ])
          refine wpAnyH_take (i := 20) (oi := { dst := some 191, op := Go.Op.binOp Go.BinOp.neq 24 (Go.Operand.tmp 190) (Go.Operand.const (Go.Value.int Go.IntKind.i64 0)) 24, type := 4, pos := "law.go:72", after := #[{ on := 19, ground := Go.Ground.data }, { on := 18, ground := Go.Ground.guard }], guard := some (18, false) }) (v := ?_) rfl (by kernel_rfl) (by kernel_rfl) (by kernel_rfl) (fun _ _ _ h => h) (Or.inl ⟨by rfl, ?hy20⟩) (by assumption) ?_
          case hy20 => intro w_ hSw; (try dsimp only at hSw); go_simp; all_goals (with_reducible rfl)
          (try simp only [Act.put, List.setIfInBounds_toArray, List.set_cons_zero, List.set_cons_succ])
          refine wpAnyH_take (i := 21) (oi := { dst := some 192, op := Go.Op.move (Go.Operand.tmp 191), type := 4, pos := "law.go:72", after := #[{ on := 20, ground := Go.Ground.data }, { on := 18, ground := Go.Ground.chain }, { on := 18, ground := Go.Ground.guard }], guard := some (18, false) }) (v := ?_) rfl (by kernel_rfl) (by kernel_rfl) (by kernel_rfl) (fun _ _ _ h => h) (Or.inl ⟨by rfl, ?hy21⟩) (by assumption) ?_
          case hy21 => intro w_ hSw; (try dsimp only at hSw); go_simp; all_goals (with_reducible rfl)
          (try simp only [Act.put, List.setIfInBounds_toArray, List.set_cons_zero, List.set_cons_succ])
          refine wpAnyH_take (i := 22) (oi := { dst := some 193, op := Go.Op.move (Go.Operand.tmp 5), type := 31, pos := "law.go:72", after := #[{ on := 21, ground := Go.Ground.guard }], guard := some (21, true) }) (v := ?_) rfl (by kernel_rfl) (by kernel_rfl) (by kernel_rfl) (fun _ _ _ h => h) (Or.inl ⟨by rfl, ?hy22⟩) (by assumption) ?_
          case hy22 => intro w_ hSw; (try dsimp only at hSw); go_simp; all_goals (with_reducible rfl)
          (try simp only [Act.put, List.setIfInBounds_toArray, List.set_cons_zero, List.set_cons_succ])
          refine wpAnyH_take (i := 23) (oi := { dst := some 194, op := Go.Op.fieldAddr 38 (Go.Operand.tmp 9) 1, type := 0, pos := "law.go:72", after := #[{ on := 21, ground := Go.Ground.guard }], guard := some (21, true) }) (v := ?_) rfl (by kernel_rfl) (by kernel_rfl) (by kernel_rfl) (fun _ _ _ h => h) (Or.inl ⟨by rfl, ?hy23⟩) (by assumption) ?_
          case hy23 => intro w_ hSw; (try dsimp only at hSw); go_simp; all_goals (with_reducible rfl)
          (try simp only [Act.put, List.setIfInBounds_toArray, List.set_cons_zero, List.set_cons_succ])
          refine wpAnyH_take (i := 24) (oi := { dst := some 195, op := Go.Op.load 3 (Go.Operand.tmp 194), type := 3, pos := "law.go:72", after := #[{ on := 23, ground := Go.Ground.data }, { on := 21, ground := Go.Ground.guard }], guard := some (21, true) }) (v := ?_) rfl (by kernel_rfl) (by kernel_rfl) (by kernel_rfl) (fun _ _ _ h => h) (Or.inl ⟨by rfl, ?hy24⟩) (by assumption) ?_
          case hy24 => intro w_ hSw; (try dsimp only at hSw); go_simp; all_goals (with_reducible rfl)
          (try simp only [Act.put, List.setIfInBounds_toArray, List.set_cons_zero, List.set_cons_succ])
          refine wpAnyH_ready (rs := [25]) (by kernel_rfl) (by simp) ?_
          refine AllReadyH.cons (o := { dst := some 196, op := Go.Op.call { callee := Go.Callee.value (Go.Operand.func 23), args := #[Go.Operand.tmp 193, Go.Operand.tmp 195], argTypes := #[31, 3] }, type := 36, pos := "law.go:72", after := #[{ on := 22, ground := Go.Ground.data }, { on := 24, ground := Go.Ground.data }, { on := 21, ground := Go.Ground.chain }, { on := 21, ground := Go.Ground.guard }], guard := some (21, true) }) rfl (fun K hK => ?_) AllReadyH.nil
          go_simp
          go_at_call 23
          ((with_reducible refine (tally.getOut ai p g ys _ (by exact HI0.out.below (by repeat (first | exact HBX.out | apply below_drew | apply pw_below_drewN | apply below_alloc))) (by rw [HYL.out]; exact HO.out)).mono ?_); rintro e w' ⟨rfl, rfl⟩)
          (try go_wp2_with fail)
          refine hK.out _ _ (by (try dsimp only); exact pw_cell_below (by repeat (first | exact HBX.out | apply below_drew | apply pw_below_drewN | apply below_alloc)) HQ.out) (fun hHeld2 => ?_)
          clear hK K hHeld
          have hHeld := hHeld2
          clear hHeld2
          (try simp only [Act.put, List.setIfInBounds_toArray, List.set_cons_zero, List.set_cons_succ])
          refine wpAnyH_take (i := 26) (oi := { dst := some 197, op := Go.Op.binOp Go.BinOp.neq 36 (Go.Operand.tmp 196) (Go.Operand.const (Go.Value.int Go.IntKind.u64 0)) 36, type := 4, pos := "law.go:72", after := #[{ on := 25, ground := Go.Ground.data }, { on := 21, ground := Go.Ground.guard }], guard := some (21, true) }) (v := ?_) rfl (by kernel_rfl) (by kernel_rfl) (by kernel_rfl) (fun _ _ _ h => h) (Or.inl ⟨by rfl, ?hy26⟩) (by assumption) ?_
          case hy26 => intro w_ hSw; (try dsimp only at hSw); go_simp; all_goals (with_reducible rfl)
          (try simp only [Act.put, List.setIfInBounds_toArray, List.set_cons_zero, List.set_cons_succ])
          refine wpAnyH_take (i := 27) (oi := { dst := some 198, op := Go.Op.pick (Go.Operand.tmp 192) (Go.Operand.tmp 197) (Go.Operand.const (Go.Value.bool false)), type := 4, pos := "law.go:72", after := #[{ on := 21, ground := Go.Ground.data }, { on := 26, ground := Go.Ground.data }, { on := 18, ground := Go.Ground.guard }], guard := some (18, false) }) (v := ?_) rfl (by kernel_rfl) (by kernel_rfl) (by kernel_rfl) (fun _ _ _ h => h) (Or.inl ⟨by rfl, ?hy27⟩) (by assumption) ?_
          case hy27 => intro w_ hSw; (try dsimp only at hSw); go_simp; all_goals (with_reducible rfl)
          (try simp only [Act.put, List.setIfInBounds_toArray, List.set_cons_zero, List.set_cons_succ])
          refine wpAnyH_take (i := 28) (oi := { dst := some 199, op := Go.Op.pick (Go.Operand.tmp 189) (Go.Operand.const (Go.Value.bool true)) (Go.Operand.tmp 198), type := 4, pos := "law.go:72", after := #[{ on := 18, ground := Go.Ground.data }, { on := 27, ground := Go.Ground.data }], guard := none }) (v := ?_) rfl (by kernel_rfl) (by kernel_rfl) (by kernel_rfl) (fun _ _ _ h => h) (Or.inl ⟨by rfl, ?hy28⟩) (by assumption) ?_
          case hy28 => intro w_ hSw; (try dsimp only at hSw); go_simp; all_goals (with_reducible rfl)
          (try simp only [Act.put, List.setIfInBounds_toArray, List.set_cons_zero, List.set_cons_succ])
          refine wpAnyH_take (i := 29) (oi := { dst := some 200, op := Go.Op.move (Go.Operand.tmp 199), type := 4, pos := "law.go:72", after := #[{ on := 28, ground := Go.Ground.data }, { on := 25, ground := Go.Ground.chain }], guard := none }) (v := ?_) rfl (by kernel_rfl) (by kernel_rfl) (by kernel_rfl) (fun _ _ _ h => h) (Or.inl ⟨by rfl, ?hy29⟩) (by assumption) ?_
          case hy29 => intro w_ hSw; (try dsimp only at hSw); go_simp; all_goals (with_reducible rfl)
          (try simp only [Act.put, List.setIfInBounds_toArray, List.set_cons_zero, List.set_cons_succ])
          refine wpAnyH_take (i := 30) (oi := { dst := some 201, op := Go.Op.move (Go.Operand.tmp 5), type := 31, pos := "law.go:72", after := #[{ on := 29, ground := Go.Ground.guard }], guard := some (29, false) }) (v := ?_) rfl (by kernel_rfl) (by kernel_rfl) (by kernel_rfl) (fun _ _ _ h => h) (Or.inl ⟨by rfl, ?hy30⟩) (by assumption) ?_
          case hy30 => intro w_ hSw; (try dsimp only at hSw); go_simp; all_goals (with_reducible rfl)
          (try simp only [Act.put, List.setIfInBounds_toArray, List.set_cons_zero, List.set_cons_succ])
          refine wpAnyH_take (i := 32) (oi := { dst := some 203, op := Go.Op.move (Go.Operand.tmp 7), type := 35, pos := "law.go:72", after := #[{ on := 29, ground := Go.Ground.guard }], guard := some (29, false) }) (v := ?_) rfl (by kernel_rfl) (by kernel_rfl) (by kernel_rfl) (fun _ _ _ h => h) (Or.inl ⟨by rfl, ?hy32⟩) (by assumption) ?_
          case hy32 => intro w_ hSw; (try dsimp only at hSw); go_simp; all_goals (with_reducible rfl)
          (try simp only [Act.put, List.setIfInBounds_toArray, List.set_cons_zero, List.set_cons_succ])
          refine wpAnyH_ready (rs := [31]) (by kernel_rfl) (by simp) ?_
          refine AllReadyH.cons (o := { dst := some 202, op := Go.Op.call { callee := Go.Callee.value (Go.Operand.func 25), args := #[Go.Operand.tmp 201], argTypes := #[31] }, type := 35, pos := "law.go:72", after := #[{ on := 30, ground := Go.Ground.data }, { on := 29, ground := Go.Ground.chain }, { on := 29, ground := Go.Ground.guard }], guard := some (29, false) }) rfl (fun K hK => ?_) AllReadyH.nil
          go_simp
          go_at_call 25
          ((with_reducible refine (tally.allL p g ys _ (by exact HI0.out.below (by repeat (first | exact HBX.out | apply below_drew | apply pw_below_drewN | apply below_alloc)))).mono ?_); rintro e w3 ⟨va, rfl, hra, hb⟩; obtain ⟨Aa, ca, rfl, hla, hCa⟩ := Kd.R_reads hra; have HCa := Aside0.mk hCa; have HLa := Aside0.mk hla; clear hra hCa hla; have n_ := Aside0.mk (below_then (by repeat (first | exact HBX.out | apply below_drew | apply pw_below_drewN | apply below_alloc)) (Below.size (by repeat (first | exact HBX.out | apply below_drew | apply pw_below_drewN | apply below_alloc))) hb); clear HBX hb; have HBX := n_; clear n_)
          (try go_wp2_with fail)
          refine hK.out _ _ (by (try dsimp only); exact pw_cell_below (by repeat (first | exact HBX.out | apply below_drew | apply pw_below_drewN | apply below_alloc)) HQ.out) (fun hHeld2 => ?_)
          clear hK K hHeld
          have hHeld := hHeld2
          clear hHeld2
          (try simp only [Act.put, List.setIfInBounds_toArray, List.set_cons_zero, List.set_cons_succ])
          refine wpAnyH_ready (rs := [33]) (by kernel_rfl) (by simp) ?_
          refine AllReadyH.cons (o := { dst := some 204, op := Go.Op.call { callee := Go.Callee.value (Go.Operand.func 24), args := #[Go.Operand.tmp 202, Go.Operand.tmp 203], argTypes := #[35, 35] }, type := 4, pos := "law.go:72", after := #[{ on := 31, ground := Go.Ground.data }, { on := 32, ground := Go.Ground.data }, { on := 31, ground := Go.Ground.chain }, { on := 29, ground := Go.Ground.guard }], guard := some (29, false) }) rfl (fun K hK => ?_) AllReadyH.nil
          go_simp
          go_at_call 24
          ((with_reducible refine (sameC n Aa ca ys h _ (by repeat (first | exact HCa.out | apply Kd.C_drew | apply Kd.C_drewN)) HLa.out (by exact HR0.out.below (by repeat (first | exact HBX.out | apply below_drew | apply pw_below_drewN | apply below_alloc))) HYL.out hn2).mono ?_); rintro e w' ⟨rfl, ⟨m, rfl⟩⟩)
          (try go_wp2_with fail)
          refine hK.out _ _ (by (try dsimp only); exact pw_cell_below (by repeat (first | exact HBX.out | apply below_drew | apply pw_below_drewN | apply below_alloc)) HQ.out) (fun hHeld2 => ?_)
          clear hK K hHeld
          have hHeld := hHeld2
          clear hHeld2
          (try simp only [Act.put, List.setIfInBounds_toArray, List.set_cons_zero, List.set_cons_succ])
          refine wpAnyH_take (i := 34) (oi := { dst := some 205, op := Go.Op.unOp Go.UnOp.not 4 (Go.Operand.tmp 204), type := 4, pos := "law.go:72", after := #[{ on := 33, ground := Go.Ground.data }, { on := 29, ground := Go.Ground.guard }], guard := some (29, false) }) (v := ?_) rfl (by kernel_rfl) (by kernel_rfl) (by kernel_rfl) (fun _ _ _ h => h) (Or.inl ⟨by rfl, ?hy34⟩) (by assumption) ?_
          case hy34 => intro w_ hSw; (try dsimp only at hSw); go_simp; all_goals (with_reducible rfl)
          (try simp only [Act.put, List.setIfInBounds_toArray, List.set_cons_zero, List.set_cons_succ])
          refine wpAnyH_take (i := 35) (oi := { dst := some 206, op := Go.Op.pick (Go.Operand.tmp 200) (Go.Operand.const (Go.Value.bool true)) (Go.Operand.tmp 205), type := 4, pos := "law.go:72", after := #[{ on := 29, ground := Go.Ground.data }, { on := 34, ground := Go.Ground.data }], guard := none }) (v := ?_) rfl (by kernel_rfl) (by kernel_rfl) (by kernel_rfl) (fun _ _ _ h => h) (Or.inl ⟨by rfl, ?hy35⟩) (by assumption) ?_
          case hy35 => intro w_ hSw; (try dsimp only at hSw); go_simp; all_goals (with_reducible rfl)
          (try simp only [Act.put, List.setIfInBounds_toArray, List.set_cons_zero, List.set_cons_succ])
          refine wpAnyH_take (i := 36) (oi := { dst := some 207, op := Go.Op.move (Go.Operand.tmp 206), type := 4, pos := "law.go:72", after := #[{ on := 35, ground := Go.Ground.data }, { on := 33, ground := Go.Ground.chain }], guard := none }) (v := ?_) rfl (by kernel_rfl) (by kernel_rfl) (by kernel_rfl) (fun _ _ _ h => h) (Or.inl ⟨by rfl, ?hy36⟩) (by assumption) ?_
          case hy36 => intro w_ hSw; (try dsimp only at hSw); go_simp; all_goals (with_reducible rfl)
          (try simp only [Act.put, List.setIfInBounds_toArray, List.set_cons_zero, List.set_cons_succ])
          refine wpAnyH_take (i := 37) (oi := { dst := some 208, op := Go.Op.move (Go.Operand.tmp 5), type := 31, pos := "law.go:72", after := #[{ on := 36, ground := Go.Ground.guard }], guard := some (36, false) }) (v := ?_) rfl (by kernel_rfl) (by kernel_rfl) (by kernel_rfl) (fun _ _ _ h => h) (Or.inl ⟨by rfl, ?hy37⟩) (by assumption) ?_
          case hy37 => intro w_ hSw; (try dsimp only at hSw); go_simp; all_goals (with_reducible rfl)
          (try simp only [Act.put, List.setIfInBounds_toArray, List.set_cons_zero, List.set_cons_succ])
          refine wpAnyH_take (i := 39) (oi := { dst := some 210, op := Go.Op.move (Go.Operand.tmp 7), type := 35, pos := "law.go:72", after := #[{ on := 36, ground := Go.Ground.guard }], guard := some (36, false) }) (v := ?_) rfl (by kernel_rfl) (by kernel_rfl) (by kernel_rfl) (fun _ _ _ h => h) (Or.inl ⟨by rfl, ?hy39⟩) (by assumption) ?_
          case hy39 => intro w_ hSw; (try dsimp only at hSw); go_simp; all_goals (with_reducible rfl)
          (try simp only [Act.put, List.setIfInBounds_toArray, List.set_cons_zero, List.set_cons_succ])
          refine wpAnyH_ready (rs := [38]) (by kernel_rfl) (by simp) ?_
          refine AllReadyH.cons (o := { dst := some 209, op := Go.Op.call { callee := Go.Callee.value (Go.Operand.func 26), args := #[Go.Operand.tmp 208], argTypes := #[31] }, type := 36, pos := "law.go:72", after := #[{ on := 37, ground := Go.Ground.data }, { on := 36, ground := Go.Ground.chain }, { on := 36, ground := Go.Ground.guard }], guard := some (36, false) }) rfl (fun K hK => ?_) AllReadyH.nil
          go_simp
          go_at_call 26
          ((with_reducible refine (tally.totalL p g ys _ (by exact HI0.out.below (by repeat (first | exact HBX.out | apply below_drew | apply pw_below_drewN | apply below_alloc)))).mono ?_); rw [show Go.Proofs.Ytjlegibfeenglaa.XTallyPlain.total ys = ty from HTY]; rintro e w5 ⟨rfl, hb⟩; have n_ := Aside0.mk (below_then (by repeat (first | exact HBX.out | apply below_drew | apply pw_below_drewN | apply below_alloc)) (Below.size (by repeat (first | exact HBX.out | apply below_drew | apply pw_below_drewN | apply below_alloc))) hb); clear HBX hb; have HBX := n_; clear n_)
          (try go_wp2_with fail)
          refine hK.out _ _ (by (try dsimp only); exact pw_cell_below (by repeat (first | exact HBX.out | apply below_drew | apply pw_below_drewN | apply below_alloc)) HQ.out) (fun hHeld2 => ?_)
          clear hK K hHeld
          have hHeld := hHeld2
          clear hHeld2
          (try simp only [Act.put, List.setIfInBounds_toArray, List.set_cons_zero, List.set_cons_succ])
          refine wpAnyH_ready (rs := [40]) (by kernel_rfl) (by simp) ?_
          refine AllReadyH.cons (o := { dst := some 211, op := Go.Op.call { callee := Go.Callee.value (Go.Operand.func 27), args := #[Go.Operand.tmp 210], argTypes := #[35] }, type := 36, pos := "law.go:72", after := #[{ on := 39, ground := Go.Ground.data }, { on := 38, ground := Go.Ground.chain }, { on := 36, ground := Go.Ground.guard }], guard := some (36, false) }) rfl (fun K hK => ?_) AllReadyH.nil
          go_simp
          go_at_call 27
          ((with_reducible refine (totC n ys h ty _ (by exact HR0.out.below (by repeat (first | exact HBX.out | apply below_drew | apply pw_below_drewN | apply below_alloc))) HYL.out hn2 HTY).mono ?_); rintro e w' ⟨rfl, ⟨m2, rfl⟩⟩)
          (try go_wp2_with fail)
          refine hK.out _ _ (by (try dsimp only); exact pw_cell_below (by repeat (first | exact HBX.out | apply below_drew | apply pw_below_drewN | apply below_alloc)) HQ.out) (fun hHeld2 => ?_)
          clear hK K hHeld
          have hHeld := hHeld2
          clear hHeld2
          (try simp only [Act.put, List.setIfInBounds_toArray, List.set_cons_zero, List.set_cons_succ])
          refine wpAnyH_take (i := 41) (oi := { dst := some 212, op := Go.Op.binOp Go.BinOp.neq 36 (Go.Operand.tmp 209) (Go.Operand.tmp 211) 36, type := 4, pos := "law.go:72", after := #[{ on := 38, ground := Go.Ground.data }, { on := 40, ground := Go.Ground.data }, { on := 36, ground := Go.Ground.guard }], guard := some (36, false) }) (v := ?_) rfl (by kernel_rfl) (by kernel_rfl) (by kernel_rfl) (fun _ _ _ h => h) (Or.inl ⟨by rfl, ?hy41⟩) (by assumption) ?_
          case hy41 => intro w_ hSw; (try dsimp only at hSw); go_simp; all_goals (with_reducible rfl)
          (try simp only [Act.put, List.setIfInBounds_toArray, List.set_cons_zero, List.set_cons_succ])
          refine wpAnyH_take (i := 42) (oi := { dst := some 213, op := Go.Op.pick (Go.Operand.tmp 207) (Go.Operand.const (Go.Value.bool true)) (Go.Operand.tmp 212), type := 4, pos := "law.go:72", after := #[{ on := 36, ground := Go.Ground.data }, { on := 41, ground := Go.Ground.data }], guard := none }) (v := ?_) rfl (by kernel_rfl) (by kernel_rfl) (by kernel_rfl) (fun _ _ _ h => h) (Or.inl ⟨by rfl, ?hy42⟩) (by assumption) ?_
          case hy42 => intro w_ hSw; (try dsimp only at hSw); go_simp; all_goals (with_reducible rfl)
          (try simp only [Act.put, List.setIfInBounds_toArray, List.set_cons_zero, List.set_cons_succ])
          refine wpAnyH_done (by kernel_rfl) ?_ _
          clear hHeld
          go_wp2_with fail
          go_roundg (l1.length - (i + 1))
          case measure => have := HK.out; omega
          case rel => exact ⟨_, i + 1, ys, rfl, ⟨rfl⟩, ⟨hi⟩, by go_num, HYL, ⟨HI0.out.below (by repeat (first | exact HBX.out | apply below_drew | apply pw_below_drewN | apply below_alloc))⟩, ⟨HR0.out.below (by repeat (first | exact HBX.out | apply below_drew | apply pw_below_drewN | apply below_alloc))⟩, ⟨below_then HB0.out HB0.out.size (by repeat (first | exact HBX.out | apply below_drew | apply pw_below_drewN | apply below_alloc))⟩⟩
        case first =>
          by_cases q0 : ado = 0
          · have t0 : (ado == 0) = true := beq_iff_eq.mpr q0
            clear q0
            as_aux_lemma =>
              go_wp2_with fail
              with_reducible refine (tally.addOut ai ak p g xs _ HI1.out (by rw [HXL.out]; exact HO.out)).mono ?_
              rintro e w4 ⟨rfl, hw4⟩
              have HI0 : Aside0 (tally.Is w4 p g xs) := ⟨hw4 ▸ HI1.out⟩
              have HR0 : Aside0 (Row w4 h xs) := ⟨hw4 ▸ HR1.out⟩
              have HB0 : Aside0 (Below w.heap.size w w4) := ⟨hw4 ▸ HBL.out⟩
              have HQ : Aside0 (w4.cell? ⟨wr.heap.size, 1, none⟩ = some (.int .i64 ai)) := ⟨hw4 ▸ HQ0.out⟩
              have hq2 : w4.cell? ⟨wr.heap.size, 2, none⟩ = some (.int .u64 ak) := by rw [← hw4]; have h_ := heap_alloc_new wr (.cells #[.int .i64 ado, .int .i64 ai, .int .u64 ak] 38 (0, 0)); unfold World.cell?; rw [h_]; rfl
              clear hw4
              have hq1 := HQ.out
              go_wp2_with fail
              clear hq1 hq2
              have HYL := HXL
              go_meet
              exact ⟨rfl, ⟨xs, HXL.out, HI0.out, HR0.out, HQ.out, HB0.out⟩⟩
          have t0 : (ado == 0) = false := beq_eq_false_iff_ne.mpr q0
          clear q0
          by_cases q0 : ado = 1
          · have t1 : (ado == 1) = true := beq_iff_eq.mpr q0
            clear q0
            as_aux_lemma =>
              go_wp2_with fail
              with_reducible refine (tally.swapOut ai ak p g xs _ HI1.out (by rw [HXL.out]; exact HO.out)).mono ?_
              rintro e w4 ⟨rfl, hw4⟩
              have HI0 : Aside0 (tally.Is w4 p g xs) := ⟨hw4 ▸ HI1.out⟩
              have HR0 : Aside0 (Row w4 h xs) := ⟨hw4 ▸ HR1.out⟩
              have HB0 : Aside0 (Below w.heap.size w w4) := ⟨hw4 ▸ HBL.out⟩
              have HQ : Aside0 (w4.cell? ⟨wr.heap.size, 1, none⟩ = some (.int .i64 ai)) := ⟨hw4 ▸ HQ0.out⟩
              have hq2 : w4.cell? ⟨wr.heap.size, 2, none⟩ = some (.int .u64 ak) := by rw [← hw4]; have h_ := heap_alloc_new wr (.cells #[.int .i64 ado, .int .i64 ai, .int .u64 ak] 38 (0, 0)); unfold World.cell?; rw [h_]; rfl
              clear hw4
              have hq1 := HQ.out
              go_wp2_with fail
              clear hq1 hq2
              have HYL := HXL
              go_meet
              exact ⟨rfl, ⟨xs, HXL.out, HI0.out, HR0.out, HQ.out, HB0.out⟩⟩
          have t1 : (ado == 1) = false := beq_eq_false_iff_ne.mpr q0
          clear q0
          by_cases q0 : ado = 2
          · have t2 : (ado == 2) = true := beq_iff_eq.mpr q0
            clear q0
            as_aux_lemma =>
              go_wp2_with fail
              with_reducible refine (tally.raiseOut ai ak p g xs _ HI1.out (by rw [HXL.out]; exact HO.out)).mono ?_
              rintro e w4 ⟨rfl, hw4⟩
              have HI0 : Aside0 (tally.Is w4 p g xs) := ⟨hw4 ▸ HI1.out⟩
              have HR0 : Aside0 (Row w4 h xs) := ⟨hw4 ▸ HR1.out⟩
              have HB0 : Aside0 (Below w.heap.size w w4) := ⟨hw4 ▸ HBL.out⟩
              have HQ : Aside0 (w4.cell? ⟨wr.heap.size, 1, none⟩ = some (.int .i64 ai)) := ⟨hw4 ▸ HQ0.out⟩
              have hq2 : w4.cell? ⟨wr.heap.size, 2, none⟩ = some (.int .u64 ak) := by rw [← hw4]; have h_ := heap_alloc_new wr (.cells #[.int .i64 ado, .int .i64 ai, .int .u64 ak] 38 (0, 0)); unfold World.cell?; rw [h_]; rfl
              clear hw4
              have hq1 := HQ.out
              go_wp2_with fail
              clear hq1 hq2
              have HYL := HXL
              go_meet
              exact ⟨rfl, ⟨xs, HXL.out, HI0.out, HR0.out, HQ.out, HB0.out⟩⟩
          have t2 : (ado == 2) = false := beq_eq_false_iff_ne.mpr q0
          clear q0
          as_aux_lemma =>
            go_wp2_with fail
            with_reducible refine (tally.getOut ai p g xs _ HI1.out (by rw [HXL.out]; exact HO.out)).mono ?_
            rintro e w4 ⟨rfl, hw4⟩
            have HI0 : Aside0 (tally.Is w4 p g xs) := ⟨hw4 ▸ HI1.out⟩
            have HR0 : Aside0 (Row w4 h xs) := ⟨hw4 ▸ HR1.out⟩
            have HB0 : Aside0 (Below w.heap.size w w4) := ⟨hw4 ▸ HBL.out⟩
            have HQ : Aside0 (w4.cell? ⟨wr.heap.size, 1, none⟩ = some (.int .i64 ai)) := ⟨hw4 ▸ HQ0.out⟩
            have hq2 : w4.cell? ⟨wr.heap.size, 2, none⟩ = some (.int .u64 ak) := by rw [← hw4]; have h_ := heap_alloc_new wr (.cells #[.int .i64 ado, .int .i64 ai, .int .u64 ak] 38 (0, 0)); unfold World.cell?; rw [h_]; rfl
            clear hw4
            have hq1 := HQ.out
            go_wp2_with fail
            clear hq1 hq2
            have HYL := HXL
            go_meet
            exact ⟨rfl, ⟨xs, HXL.out, HI0.out, HR0.out, HQ.out, HB0.out⟩⟩


end Go.Proofs.Ytjlegibfeenglaa.XV
