-- written by wip/xprint.py out of the translation
import Derived.Test.YtbiegkifpkeaoaaXSp0
namespace Go.Proofs.Ytbiegkifpkeaoaa.XS
open Go.RowKit Go.Proofs.YtbiegkifpkeaoaaW.PrintWords Go.Proofs.YtbiegkifpkeaoaaW.PrintLast Go.Proofs.YtbiegkifpkeaoaaW.PrintMore
attribute [local go_sem] max2_int min2_int max_two min_two max_three min_three max_four min_four   -- for this text's walks alone
set_option linter.unusedVariables false
set_option linter.unusedSimpArgs false

-- NOT PRINTED: function 82 (shape_path_meet)

/-! ### shape_Check: function 38 -/
/-- the path, cut back to where it ends in a place -/
def shape_Check.pop (p : List Int) (a : Int) : List Int := (p.reverse.dropWhile (fun x => x != a)).reverse
/-- the path behind one more state; none: it may not stand there -/
def shape_Check.step (l0 : List (S102)) (p : List Int) (i : Int) : Option (List Int) :=
  if shape_Check.pop p (rd_T102 l0 i).f2 = [] then
    (if 0 < i ∨ (rd_T102 l0 i).f2 ≠ -1 then none else if 1 ≤ (rd_T102 l0 i).f1 ∧ (rd_T102 l0 i).f1 ≤ 3 then some [i] else none)
  else if (rd_T102 l0 (rd_T102 l0 i).f2).f1 = 1 then none
  else if 1 ≤ (rd_T102 l0 i).f1 ∧ (rd_T102 l0 i).f1 ≤ 3 then some (shape_Check.pop p (rd_T102 l0 i).f2 ++ [i]) else none
/-- the depth behind the states from one on (so many are left) -/
def shape_Check.run (l0 : List (S102)) : Nat → List Int → Int → Option Int
  | 0, _, deep => some deep
  | n + 1, p, deep => match shape_Check.step l0 p ((l0.length : Int) - ((n : Int) + 1)) with
    | none => none
    | some q => shape_Check.run l0 n q (max deep q.length)
def shape_Check.f (l0 : List (S102)) : Option Int :=
  some (if 60 < l0.length then 8 else if l0.length = 0 then 1 else match shape_Check.run l0 l0.length [] 0 with
    | none => 1
    | some d => if 12 < d then 6 else 0)

/-- a path in memory: a block of one cell that holds a row of the call's own -/
def shape_Check.At (w0 w : World) (g : Nat) (p : List Int) : Prop :=
  ∃ v, w.heap[g]? = some (.cells #[v] 120 (0, 0)) ∧ w.ownsRow w0.heap.size 3 1 v p.length (p.map (Value.int .i64)) ∧ v.ownBlock ≠ some g ∧ w0.heap.size ≤ g
theorem shape_Check.pop_nil (a : Int) : shape_Check.pop [] a = [] := rfl
theorem shape_Check.pop_hit (p : List Int) (a : Int) : shape_Check.pop (p ++ [a]) a = p ++ [a] := by simp [shape_Check.pop]
theorem shape_Check.pop_miss (p : List Int) (x a : Int) (h : x ≠ a) : shape_Check.pop (p ++ [x]) a = shape_Check.pop p a := by simp [shape_Check.pop, h]
theorem shape_Check.succ {W : World} {base : Nat} {e : TypeId} {size : Nat} {v : Value} {k : Nat} {xs : List Value} (h : W.ownsRow base e size v (k + 1) xs) : ∃ g cap, v = .slice (some ⟨g, 0, none⟩) (k + 1) cap := by
  rcases h.2 with ⟨_, h⟩ | ⟨g, cap, _, h, _⟩
  · omega
  · exact ⟨g, cap, h⟩
/-- behind the append: where the path lies, and what else -/
theorem shape_Check.pushed {w0 W w2 : World} {g : Nat} {v v' : Value} {p1 : List Int} {i : Int} {o : Obj} (e1 : W.heap[g]? = some (.cells #[v] 120 (0, 0))) (e2 : W.ownsRow w0.heap.size 3 1 v p1.length (p1.map (Value.int .i64))) (e3 : v.ownBlock ≠ some g) (e4 : w0.heap.size ≤ g)
    (hB : Below w0.heap.size w0 W) (hg : (W.alloc o).grownBy w2 v.ownBlock) (hown : w2.ownsRow w0.heap.size 3 1 v' (p1.length + 1) (p1.map (Value.int .i64) ++ [.int .i64 i])) :
    w2.heap[g]? = some (.cells #[v] 120 (0, 0)) ∧ Below w0.heap.size w0 w2 ∧ shape_Check.At w0 (w2.setCell ⟨g, 0, none⟩ v') g (p1 ++ [i]) ∧
      ∀ (b : Nat) (cs : Array Value) (t : TypeId), W.heap[b]? = some (Obj.cells cs t (0, 0)) → t ≠ 3 → w2.heap[b]? = some (Obj.cells cs t (0, 0)) := by
  have hk : ∀ (b : Nat) (cs : Array Value) (t : TypeId), W.heap[b]? = some (Obj.cells cs t (0, 0)) → t ≠ 3 → w2.heap[b]? = some (Obj.cells cs t (0, 0)) := by
    intro b cs t hb ht
    have h1 := blk_alloc hb o
    refine (hg.block b (lt_of_block h1) (fun e => ?_)).trans h1
    obtain ⟨c', hc'⟩ := own_typed e2 b e.symm
    rw [hb] at hc'
    injection hc' with hc'
    injection hc' with _ hc'
    exact ht hc'
  have h1 := hk g _ _ e1 (by decide)
  refine ⟨h1, (hB.alloc hB.size o).grown hg (Nat.le_trans hB.size (by simp)) (fun k hk => (e2.lt k hk).1), ⟨v', one_setCell h1, ?_, ?_, e4⟩, hk⟩
  · refine ownsRow_setCell_other (by simpa using hown) ?_ _
    intro e
    obtain ⟨c', hc'⟩ := own_typed hown g e
    rw [h1] at hc'
    injection hc' with hc'
    injection hc' with _ hc'
    exact absurd hc' (by decide)
  · intro e
    obtain ⟨c', hc'⟩ := own_typed hown g e
    rw [h1] at hc'
    injection hc' with hc'
    injection hc' with _ hc'
    exact absurd hc' (by decide)
set_option maxHeartbeats 2000000 in
set_option maxRecDepth 100000 in
theorem shape_Check.meet (g : Nat) (A0 : Option Addr) (c0 : Nat) (l0 : List (S102)) (i : Int) (p : List Int) (w0 w : World) (hr0 : Kd.C k102 w0 A0 l0.length l0) (h0 : 0 ≤ i) (hi : i < l0.length) (hl : l0.length ≤ 60)
    (hp : ∀ x ∈ p, 0 ≤ x ∧ x < l0.length) (hn : p.length ≤ 60) (hB : Below w0.heap.size w0 w) (hP : shape_Check.At w0 w g p) :
    Calls Try.prog 82 #[.pointer (some ⟨g, 0, none⟩), .slice A0 l0.length c0, .int .i64 i] w fun e w' => e = .returned (.bool (shape_Check.step l0 p i).isSome) ∧ Below w0.heap.size w0 w' ∧
      ∀ q, shape_Check.step l0 p i = some q → shape_Check.At w0 w' g q := by
  have hC := Kd.C_below hr0 hB
  obtain ⟨ad, A3, cc3, A4, cc4, A5, cc5, hA, hx0, hx1, hx2, hx3, hx4, hx5, -⟩ := at_T102 hC i h0 hi
  subst hA
  obtain ⟨i0, hi0, hz0, hz1, hz2⟩ := info_parts info3
  go_enter Try.func82, Try.ntmps82
  go_wp2
  have HR := Aside0.mk hr0
  have hsz := World.size_alloc
  obtain ⟨w1, hw1⟩ : ∃ w1 : World, w1 = w.alloc (.cells #[.string (rd_T102 l0 i).f0, .int .i64 (rd_T102 l0 i).f1, .int .i64 (rd_T102 l0 i).f2, .slice A3 (rd_T102 l0 i).f3.length cc3, .slice A4 (rd_T102 l0 i).f4.length cc4, .slice A5 (rd_T102 l0 i).f5.length cc5] 102) := ⟨_, rfl⟩
  have s0 : w0.heap.size ≤ w.heap.size := hB.size
  have b7 : w1.heap[w.heap.size]? = some (.cells #[.string (rd_T102 l0 i).f0, .int .i64 (rd_T102 l0 i).f1, .int .i64 (rd_T102 l0 i).f2, .slice A3 (rd_T102 l0 i).f3.length cc3, .slice A4 (rd_T102 l0 i).f4.length cc4, .slice A5 (rd_T102 l0 i).f5.length cc5] 102 (0, 0)) := by rw [hw1]; exact heap_alloc_new w _
  have B1 : Below w0.heap.size w0 w1 := by rw [hw1]; exact hB.alloc s0 _
  have hP1 : shape_Check.At w0 w1 g p := by
    obtain ⟨v, e1, e2, e3, e4⟩ := hP
    refine ⟨v, ?_, ?_, e3, e4⟩
    · rw [hw1]; exact blk_alloc e1 _
    · rw [hw1]; exact e2.alloc _
  rw [← hw1]
  clear hw1 hP hx0 hx1 hx2 hx3 hx4 hx5 hC hr0 hsz
  generalize w.heap.size = b7n at *
  generalize hS : rd_T102 l0 i = s at *
  have HS := Aside0.mk hS
  clear hS
  have HP := Aside0.mk hP1
  have HB := Aside0.mk B1
  have HB7 := Aside0.mk b7
  have HPP := Aside0.mk hp
  clear hP1 B1 b7 hp hB
  go_loopg [] p.length (fun kq wr => ∃ p1 : List Int, Aside0 (kq = p1.length) ∧ Aside0 (shape_Check.pop p s.f2 = shape_Check.pop p1 s.f2) ∧ Aside0 (∀ x ∈ p1, 0 ≤ x ∧ x < (l0.length : Int)) ∧ Aside0 (p1.length ≤ 60) ∧ Aside0 (shape_Check.At w0 wr g p1) ∧ Aside0 (Below w0.heap.size w0 wr) ∧ Aside0 (wr.heap[b7n]? = some (.cells #[.string s.f0, .int .i64 s.f1, .int .i64 s.f2, .slice A3 s.f3.length cc3, .slice A4 s.f4.length cc4, .slice A5 s.f5.length cc5] 102 (0, 0))))
  case atStart => exact ⟨p, ⟨rfl⟩, ⟨rfl⟩, HPP, ⟨hn⟩, HP, HB, HB7⟩
  case round =>
    clear HP HB HB7 HPP
    obtain ⟨p1, HK, HQ, HPP, HN, HP, HB, HB7⟩ := hrel
    obtain ⟨v, e1, e2, e3, e4⟩ := HP.out
    have c7 : ∀ j u, (#[.string s.f0, .int .i64 s.f1, .int .i64 s.f2, .slice A3 s.f3.length cc3, .slice A4 s.f4.length cc4, .slice A5 s.f5.length cc5] : Array Value)[j]? = some u → wr.cell? ⟨b7n, j, none⟩ = some u := fun j u h => by simpa [World.cell?, HB7.out] using h
    have d1 := c7 1 _ rfl
    have d2 := c7 2 _ rfl
    clear c7
    have cg := cell_of_one e1
    rcases List.eq_nil_or_concat p1 with rfl | ⟨q, x, rfl⟩
    · have hv : ∃ a c, v = .slice a 0 c := by
        rcases e2.2 with ⟨rfl, -⟩ | ⟨gb, cap, cur, rfl, -⟩
        · exact ⟨_, _, rfl⟩
        · exact ⟨_, _, rfl⟩
      obtain ⟨va, vc, rfl⟩ := hv
      have hq0 : shape_Check.pop p s.f2 = [] := HQ.out
      have hstep : shape_Check.step l0 p i = (if 0 < i ∨ s.f2 ≠ -1 then none else if 1 ≤ s.f1 ∧ s.f1 ≤ 3 then some [i] else none) := by
        unfold shape_Check.step; rw [HS.out, if_pos hq0]
      have HST := Aside0.mk hstep
      have HE2 := Aside0.mk e2
      have HE1 := Aside0.mk e1
      have HE3 := Aside0.mk e3
      clear hq0 hstep e2 e1 e3
      by_cases hA : 0 < i
      · have hA1 : decide (0 < i) = true := decide_eq_true hA
        go_wp2
        repeat (go_quiet (fail); try go_wp2)
        go_ret
        rw [HST.out, if_pos (.inl hA)]
        exact ⟨rfl, (pw_below_drewN HB.out _), fun q h => by cases h⟩
      · have hA1 : decide (0 < i) = false := decide_eq_false hA
        by_cases hpar : s.f2 = -1
        · have hp1 : (s.f2 == -1) = true := beq_iff_eq.mpr hpar
          have hp2 : (s.f2 != -1) = false := bne_eq_false_iff_eq.mpr hpar
          have HPAR := Aside0.mk hpar
          clear hpar
          go_wp2
          repeat (go_quiet (fail); try go_wp2_with (at_builtin; refine wpList_append_own _ rfl _ _ 120 rfl w0.heap.size 3 i0 (.int .i64 0) 1 8 Try.underlying120 hi0 hz0 hz1 hz2 rfl (by decide) _ _ _ rfl (World.ownsRow.alloc (pw_own_drewN HE2.out _) _) ⟨wr.heap.size, 0, none⟩ 1 1 [.int .i64 i] rfl rfl ?c1 ?c2 ?c3 ?c4 ?c5 ?c6))
          case c1 => exact cell_one_new _ _ _
          case c2 => intro u hu; simp at hu; subst hu; rfl
          case c3 => simp [maxLen]
          case c4 => simp
          case c5 => exact Nat.le_trans HB.out.size (by simp)
          case c6 =>
            intro v2 w2 hown hgrow _
            obtain ⟨hg2, hB2, hP2, hk2⟩ := shape_Check.pushed (i := i) (p1 := []) (blk_drewN HE1.out _) (pw_own_drewN HE2.out _) HE3.out e4 (pw_below_drewN HB.out _) hgrow hown
            have hb2 := hk2 _ _ _ (blk_drewN HB7.out _) (by decide)
            obtain ⟨g3, c3, rfl⟩ := shape_Check.succ hown
            have HP2 := Aside0.mk hP2
            have HB2 := Aside0.mk hB2
            clear hP2 hB2 hown hgrow hk2
            have cg2 := cell_of_one hg2
            have fg2 := free_of_one hg2
            have d1' : w2.cell? ⟨b7n, 1, none⟩ = some (.int .i64 s.f1) := by simp [World.cell?, hb2]
            have hne : ¬ (g = b7n) := by
              rintro rfl
              rw [hg2] at hb2
              injection hb2 with hb2
              injection hb2 with _ hb2
              exact absurd hb2 (by decide)
            have hne' : ¬ (b7n = g) := fun e => hne e.symm
            clear hg2 hb2 cg d1 d2
            have hno : ¬ (0 < i ∨ s.f2 ≠ -1) := by rw [HPAR.out]; simp; omega
            by_cases hk1 : 1 ≤ s.f1
            · have hk1' : decide (1 ≤ s.f1) = true := decide_eq_true hk1
              by_cases hk3 : s.f1 ≤ 3
              · have hk3' : decide (s.f1 ≤ 3) = true := decide_eq_true hk3
                go_wp2
                repeat (go_quiet (fail); try go_wp2)
                go_ret
                rw [HST.out, if_neg hno, if_pos ⟨hk1, hk3⟩]
                exact ⟨rfl, HB2.out.setCell (p := ⟨g, 0, none⟩) e4 _, fun q h => by cases h; exact HP2.out⟩
              · have hk3' : decide (s.f1 ≤ 3) = false := decide_eq_false hk3
                go_wp2
                repeat (go_quiet (fail); try go_wp2)
                go_ret
                rw [HST.out, if_neg hno, if_neg (by omega)]
                exact ⟨rfl, HB2.out.setCell (p := ⟨g, 0, none⟩) e4 _, fun q h => by cases h⟩
            · have hk1' : decide (1 ≤ s.f1) = false := decide_eq_false hk1
              go_wp2
              repeat (go_quiet (fail); try go_wp2)
              go_ret
              rw [HST.out, if_neg hno, if_neg (by omega)]
              exact ⟨rfl, HB2.out.setCell (p := ⟨g, 0, none⟩) e4 _, fun q h => by cases h⟩
        · have hp1 : (s.f2 == -1) = false := beq_eq_false_iff_ne.mpr hpar
          have hp2 : (s.f2 != -1) = true := bne_iff_ne.mpr hpar
          go_wp2
          repeat (go_quiet (fail); try go_wp2)
          go_ret
          rw [HST.out, if_pos (.inr hpar)]
          exact ⟨rfl, (pw_below_drewN HB.out _), fun q h => by cases h⟩
    · obtain ⟨gb, cap, cur, rfl, -, hcur, hcl, hcm, hcs, htk⟩ : ∃ gb cap cur, v = .slice (some ⟨gb, 0, none⟩) (q.length + 1) cap ∧ w0.heap.size ≤ gb ∧ wr.heap[gb]? = some (.cells cur 3 (0, 0)) ∧ q.length + 1 ≤ cap ∧ cap ≤ maxLen ∧ cur.size = cap * 1 ∧ cur.toList.take ((q.length + 1) * 1) = (q.concat x).map (Value.int .i64) := by
        have h2 := e2.2
        simp only [List.length_concat] at h2
        rcases h2 with ⟨-, h⟩ | h
        · omega
        · exact h
      have hlast : wr.cell? ⟨gb, q.length, none⟩ = some (.int .i64 x) := by
        have := e2.cells (g := gb) (by simp [Value.ownBlock]) q.length (.int .i64 x) (by simp)
        have hz : (⟨gb, 0, none⟩ : Addr).add q.length = ⟨gb, q.length, none⟩ := by rw [Addr.add_lit]; simp
        rwa [hz] at this
      have HE2 := Aside0.mk e2
      have HE1 := Aside0.mk e1
      have HE3 := Aside0.mk e3
      have HCUR := Aside0.mk hcur
      have HTK := Aside0.mk htk
      have HCS := Aside0.mk hcs
      have hql : q.length + 1 ≤ 60 := by have := HN.out; simpa using this
      clear e2 e1 e3 hcur htk hcs
      have hlen0 : decide ((0 : Int) < (q.length : Int) + 1) = true := decide_eq_true (by omega)
      by_cases hx : x = s.f2
      · subst hx
        have hpp : shape_Check.pop p s.f2 = q ++ [s.f2] := by rw [HQ.out, List.concat_eq_append, shape_Check.pop_hit]
        have hb := HPP.out s.f2 (by simp)
        obtain ⟨hb0, hb1⟩ := hb
        have hC := Kd.C_below HR.out HB.out
        obtain ⟨ad2, A3', cc3', A4', cc4', A5', cc5', hA, hx0, hx1, hx2, hx3, hx4, hx5, -⟩ := at_T102 hC s.f2 hb0 hb1
        cases hA
        have hstep : shape_Check.step l0 p i = (if (rd_T102 l0 s.f2).f1 = 1 then none else if 1 ≤ s.f1 ∧ s.f1 ≤ 3 then some (q ++ [s.f2] ++ [i]) else none) := by
          unfold shape_Check.step; rw [HS.out, if_neg (by rw [hpp]; simp), hpp]
        have HST := Aside0.mk hstep
        generalize hD : rd_T102 l0 s.f2 = s2 at *
        have HD := Aside0.mk hD
        clear hD hpp hstep hx0 hx2 hx3 hx4 hx5 hC
        by_cases hkk : s2.f1 = 1
        · have hkk1 : (s2.f1 == 1) = true := beq_iff_eq.mpr hkk
          have HKK := Aside0.mk hkk
          clear hkk
          go_wp2
          repeat (go_quiet (fail); try go_wp2)
          go_ret
          rw [HST.out, if_pos HKK.out]
          exact ⟨rfl, pw_below_drewN HB.out _, fun q h => by cases h⟩
        · have hkk1 : (s2.f1 == 1) = false := beq_eq_false_iff_ne.mpr hkk
          have HKK := Aside0.mk hkk
          clear hkk
          go_wp2
          repeat (go_quiet (fail); try go_wp2_with (at_builtin; refine wpList_append_own _ rfl _ _ 120 rfl w0.heap.size 3 i0 (.int .i64 0) 1 8 Try.underlying120 hi0 hz0 hz1 hz2 rfl (by decide) _ _ _ rfl (World.ownsRow.alloc (pw_own_drewN HE2.out _) _) ⟨wr.heap.size, 0, none⟩ 1 1 [.int .i64 i] rfl rfl ?c1 ?c2 ?c3 ?c4 ?c5 ?c6))
          case c1 => exact cell_one_new _ _ _
          case c2 => intro u hu; simp at hu; subst hu; rfl
          case c3 => simp [maxLen]; omega
          case c4 => simp; omega
          case c5 => exact Nat.le_trans HB.out.size (by simp)
          case c6 =>
            intro v2 w2 hown hgrow _
            have hown : w2.ownsRow w0.heap.size 3 1 v2 ((q ++ [s.f2]).length + 1) ((q ++ [s.f2]).map (Value.int .i64) ++ [.int .i64 i]) := by simpa [List.concat_eq_append] using hown
            obtain ⟨hg2, hB2, hP2, hk2⟩ := shape_Check.pushed (i := i) (p1 := q ++ [s.f2]) (blk_drewN HE1.out _) (by have := HE2.out; rw [List.concat_eq_append] at this; exact pw_own_drewN this _) HE3.out e4 (pw_below_drewN HB.out _) hgrow hown
            have hb2 := hk2 _ _ _ (blk_drewN HB7.out _) (by decide)
            simp only [List.length_append, List.length_singleton] at hown
            obtain ⟨g3, c3, rfl⟩ := shape_Check.succ hown
            have HP2 := Aside0.mk hP2
            have HB2 := Aside0.mk hB2
            clear hP2 hB2 hown hgrow hk2
            have cg2 := cell_of_one hg2
            have fg2 := free_of_one hg2
            have d1' : w2.cell? ⟨b7n, 1, none⟩ = some (.int .i64 s.f1) := by simp [World.cell?, hb2]
            have hne : ¬ (g = b7n) := by
              rintro rfl
              rw [hg2] at hb2
              injection hb2 with hb2
              injection hb2 with _ hb2
              exact absurd hb2 (by decide)
            have hne' : ¬ (b7n = g) := fun e => hne e.symm
            clear hg2 hb2 cg d1 d2 hx1 hlast
            by_cases hk1 : 1 ≤ s.f1
            · have hk1' : decide (1 ≤ s.f1) = true := decide_eq_true hk1
              by_cases hk3 : s.f1 ≤ 3
              · have hk3' : decide (s.f1 ≤ 3) = true := decide_eq_true hk3
                go_wp2
                repeat (go_quiet (fail); try go_wp2)
                go_ret
                rw [HST.out, if_neg HKK.out, if_pos ⟨hk1, hk3⟩]
                exact ⟨rfl, HB2.out.setCell (p := ⟨g, 0, none⟩) e4 _, fun q h => by cases h; exact HP2.out⟩
              · have hk3' : decide (s.f1 ≤ 3) = false := decide_eq_false hk3
                go_wp2
                repeat (go_quiet (fail); try go_wp2)
                go_ret
                rw [HST.out, if_neg HKK.out, if_neg (by omega)]
                exact ⟨rfl, HB2.out.setCell (p := ⟨g, 0, none⟩) e4 _, fun q h => by cases h⟩
            · have hk1' : decide (1 ≤ s.f1) = false := decide_eq_false hk1
              go_wp2
              repeat (go_quiet (fail); try go_wp2)
              go_ret
              rw [HST.out, if_neg HKK.out, if_neg (by omega)]
              exact ⟨rfl, HB2.out.setCell (p := ⟨g, 0, none⟩) e4 _, fun q h => by cases h⟩
      · have hx1 : (x == s.f2) = false := beq_eq_false_iff_ne.mpr hx
        have hx2 : (x != s.f2) = true := bne_iff_ne.mpr hx
        have HX := Aside0.mk hx
        clear hx
        have fg := free_of_one HE1.out
        go_wp2
        repeat (go_quiet (fail); try go_wp2)
        go_region
        all_goals
          go_wp2
          go_roundg q.length
          case measure => have := HK.out; simp at this; omega
          case rel =>
            refine ⟨q, ⟨rfl⟩, ⟨?_⟩, ⟨fun y hy => HPP.out y (by simp [hy])⟩, ⟨by omega⟩, ⟨?_⟩, ⟨(pw_below_drewN HB.out _).setCell (p := ⟨g, 0, none⟩) e4 _⟩, ⟨?_⟩⟩
            · rw [HQ.out, List.concat_eq_append, shape_Check.pop_miss _ _ _ HX.out]
            · have hgb : w0.heap.size ≤ gb := (HE2.out.lt gb rfl).1
              refine ⟨_, one_setCell (blk_drewN HE1.out _), ownsRow_setCell_other (pw_own_drewN ⟨by simp, .inr ⟨gb, cap, cur, rfl, hgb, HCUR.out, by omega, hcm, HCS.out, ?_⟩⟩ _) HE3.out _, HE3.out, e4⟩
              have h := HTK.out
              rw [List.concat_eq_append, List.map_append] at h
              have h2 := congrArg (List.take q.length) h
              rw [List.take_take, Nat.min_eq_left (by omega)] at h2
              rw [Nat.mul_one, h2]
              simp
            · refine blk_far (blk_drewN HB7.out _) (fun e => ?_) _
              have e' : b7n = g := e
              have h1 := HB7.out
              rw [e', HE1.out] at h1
              injection h1 with h1
              injection h1 with _ h1
              exact absurd h1 (by decide)

theorem shape_Check.pop_sub (p : List Int) (a : Int) : ∀ x ∈ shape_Check.pop p a, x ∈ p := by
  intro x hx
  unfold shape_Check.pop at hx
  rw [List.mem_reverse] at hx
  exact List.mem_reverse.1 ((List.dropWhile_sublist _).subset hx)
theorem shape_Check.pop_len (p : List Int) (a : Int) : (shape_Check.pop p a).length ≤ p.length := by
  unfold shape_Check.pop
  have := (List.dropWhile_sublist (fun x => x != a) (l := p.reverse)).length_le
  simpa using this
theorem shape_Check.step_in (l0 : List (S102)) (p q : List Int) (i : Int) (h0 : 0 ≤ i) (hi : i < l0.length) (hp : ∀ x ∈ p, 0 ≤ x ∧ x < (l0.length : Int)) (h : shape_Check.step l0 p i = some q) :
    q.length ≤ p.length + 1 ∧ ∀ x ∈ q, 0 ≤ x ∧ x < (l0.length : Int) := by
  have hl := shape_Check.pop_len p (rd_T102 l0 i).f2
  unfold shape_Check.step at h
  split at h
  · split at h
    · cases h
    · split at h
      · cases h
        exact ⟨by simp, fun x hx => by simp at hx; subst hx; exact ⟨h0, hi⟩⟩
      · cases h
  · split at h
    · cases h
    · split at h
      · cases h
        refine ⟨by simp; omega, fun x hx => ?_⟩
        rcases List.mem_append.1 hx with hx | hx
        · exact hp x (shape_Check.pop_sub _ _ _ hx)
        · simp at hx; subst hx; exact ⟨h0, hi⟩
      · cases h
theorem shape_Check.max_as (a b : Int) : max a b = if a < b then b else a := by omega
theorem shape_Check.At_cell {w0 w : World} {g : Nat} {p : List Int} (h : shape_Check.At w0 w g p) : ∃ a c, w.cell? ⟨g, 0, none⟩ = some (.slice a p.length c) := by
  obtain ⟨v, e1, e2, -, -⟩ := h
  rcases e2.2 with ⟨rfl, h⟩ | ⟨gb, cap, cur, rfl, -⟩
  · exact ⟨none, 0, by rw [h]; exact cell_of_one e1⟩
  · exact ⟨_, _, cell_of_one e1⟩
set_option maxHeartbeats 2000000 in
set_option maxRecDepth 100000 in
theorem shape_Check.calls (A0 : Option Addr) (c0 : Nat) (l0 : List (S102)) (r : Int) (w : World) (hr0 : Kd.C k102 w A0 l0.length l0) (hc0 : l0.length ≤ c0) (h : shape_Check.f l0 = some r) :
    Calls Try.prog 38 #[.slice A0 l0.length c0] w fun e w' => e = .returned (.int .i64 r) ∧ Below w.heap.size w w' := by
  unfold shape_Check.f at h
  have H := Option.some.inj h
  clear h
  by_cases h60 : 60 < l0.length
  · rw [if_pos h60] at H
    subst H
    have c1 : decide (60 < l0.length) = true := decide_eq_true h60
    have c2 : decide ((60 : Int) < (l0.length : Int)) = true := decide_eq_true (by omega)
    go_enter Try.func38, Try.ntmps38
    go_wp2
    go_ret
    exact ⟨rfl, Below.refl _ _⟩
  · rw [if_neg h60] at H
    have c1 : decide (60 < l0.length) = false := decide_eq_false h60
    have c2 : decide ((60 : Int) < (l0.length : Int)) = false := decide_eq_false (by omega)
    by_cases hz : l0.length = 0
    · rw [if_pos hz] at H
      subst H
      have c3 : ((l0.length : Int) == 0) = true := beq_iff_eq.mpr (by omega)
      have c4 : l0 = [] := List.length_eq_zero_iff.1 hz
      subst c4
      go_enter Try.func38, Try.ntmps38
      go_wp2
      go_ret
      exact ⟨rfl, Below.refl _ _⟩
    · rw [if_neg hz] at H
      have c3 : ((l0.length : Int) == 0) = false := beq_eq_false_iff_ne.mpr (by omega)
      have c4 : ¬ (l0 = []) := fun e => hz (by rw [e]; rfl)
      have HH := Aside0.mk H
      have HR := Aside0.mk hr0
      clear H hr0
      go_enter Try.func38, Try.ntmps38
      go_wp2_with fail
      have s0 : w.heap.size ≤ (w.alloc (.cells #[.slice none 0 0] 120)).heap.size := by simp
      have b3 : (w.alloc (.cells #[.slice none 0 0] 120)).heap[w.heap.size]? = some (.cells #[.slice none 0 0] 120 (0, 0)) := heap_alloc_new w _
      have B1 : Below w.heap.size w (w.alloc (.cells #[.slice none 0 0] 120)) := (Below.refl _ _).alloc (Nat.le_refl _) _
      have P1 : shape_Check.At w (w.alloc (.cells #[.slice none 0 0] 120)) w.heap.size [] := ⟨_, b3, World.ownsRow_nil _ _ _ _, by simp [Value.ownBlock], Nat.le_refl _⟩
      have HP := Aside0.mk P1
      have HB := Aside0.mk B1
      clear P1 B1 b3 s0
      go_loopg [4, 16] l0.length (fun kq v4 v16 wr => ∃ (n : Nat) (p : List Int) (deep : Int), Aside0 (kq = n) ∧ Aside0 (n ≤ l0.length) ∧ v16 = .int .i64 ((l0.length : Int) - (n : Int)) ∧ v4 = .int .i64 deep ∧ Aside0 (shape_Check.run l0 l0.length [] 0 = shape_Check.run l0 n p deep) ∧ Aside0 (p.length + n ≤ l0.length) ∧ Aside0 (∀ x ∈ p, 0 ≤ x ∧ x < (l0.length : Int)) ∧ Aside0 (shape_Check.At w wr w.heap.size p) ∧ Aside0 (Below w.heap.size w wr))
      case atStart => exact ⟨l0.length, [], 0, ⟨rfl⟩, ⟨Nat.le_refl _⟩, by simp, rfl, ⟨rfl⟩, ⟨by simp⟩, ⟨fun x hx => by cases hx⟩, HP, HB⟩
      case round =>
        clear HP HB
        obtain ⟨n, p, deep, HK, HN, rfl, rfl, HRUN, HPL, HPP, HP, HB⟩ := hrel
        cases n with
        | zero =>
          have hlt : decide ((l0.length : Int) - ((0 : Nat) : Int) < (l0.length : Int)) = false := decide_eq_false (by omega)
          have hr : (match some deep with | none => 1 | some d => if 12 < d then (6 : Int) else 0) = r := by have := HH.out; rw [HRUN.out] at this; exact this
          have hr' : (if 12 < deep then (6 : Int) else 0) = r := hr
          clear hr
          by_cases h12 : 12 < deep
          · rw [if_pos h12] at hr'
            subst hr'
            go_wp2
            go_ret
            exact ⟨rfl, HB.out⟩
          · rw [if_neg h12] at hr'
            subst hr'
            go_wp2
            go_ret
            exact ⟨rfl, HB.out⟩
        | succ n =>
          have hn1 := HN.out
          have hlt : decide ((l0.length : Int) - ((n + 1 : Nat) : Int) < (l0.length : Int)) = true := decide_eq_true (by omega)
          generalize hi : (l0.length : Int) - ((n + 1 : Nat) : Int) = i at *
          have hi0 : 0 ≤ i := by omega
          have hi1 : i < (l0.length : Int) := by omega
          have HI := Aside0.mk hi
          clear hi hn1
          have hcall := shape_Check.meet w.heap.size A0 c0 l0 i p w wr HR.out hi0 hi1 (by omega) HPP.out (by have := HPL.out; omega) HB.out HP.out
          have HC := Aside0.mk hcall
          clear hcall
          have hrun : shape_Check.run l0 (n + 1) p deep = match shape_Check.step l0 p i with | none => none | some q => shape_Check.run l0 n q (max deep q.length) := by
            rw [← HI.out]; simp only [shape_Check.run]; rfl
          have HRN := Aside0.mk hrun
          clear hrun
          cases hs : shape_Check.step l0 p i with
          | none =>
            rw [hs] at HC HRN
            have hr : r = 1 := by have := HH.out; rw [HRUN.out, HRN.out] at this; exact this.symm
            subst hr
            clear hs
            go_wp2_with (go_at_call 82; refine HC.out.mono ?_; rintro e w' ⟨rfl, hb, -⟩)
            go_ret
            exact ⟨rfl, hb⟩
          | some q =>
            obtain ⟨hq1, hq2⟩ := shape_Check.step_in l0 p q i hi0 hi1 HPP.out hs
            rw [hs] at HC HRN
            clear hs
            have hqn : q.length ≤ 60 := by have := HPL.out; omega
            by_cases hd : deep < (q.length : Int)
            all_goals
              go_wp2_with (go_at_call 82; refine HC.out.mono ?_; rintro e w' ⟨rfl, hb, hat⟩; have HAT := Aside0.mk (hat q rfl); clear hat; obtain ⟨a3, c3', hcell⟩ := shape_Check.At_cell HAT.out)
              go_roundg n
              case measure => have := HK.out; omega
              case rel =>
                refine ⟨n, q, max deep q.length, ⟨rfl⟩, ⟨by have := HN.out; omega⟩, ?_, ?_, ⟨?_⟩, ⟨by have := HPL.out; omega⟩, ⟨hq2⟩, HAT, ⟨hb⟩⟩
                · have := HI.out
                  rw [show i + 1 = (l0.length : Int) - (n : Int) by omega]
                · congr 1; omega
                · rw [HRUN.out, HRN.out]


/-! ### slices_IndexFunc_int_int: function 125 -/
/-- the first place of which p holds; -1: none -/
def IndexFunc_int.f (p : Int → Bool) (l : List Int) : Int := match l.findIdx? p with | none => -1 | some i => i
theorem IndexFunc_int.hit (p : Int → Bool) (l : List Int) (n : Nat) (hn : n < l.length) (hx : p (rd l n) = true) (h : ∀ j : Nat, j < n → p (rd l j) = false) : IndexFunc_int.f p l = n := by
  have : l.findIdx? p = some n := by
    rw [List.findIdx?_eq_some_iff_getElem]
    refine ⟨hn, by simpa [rd, hn] using hx, fun j hj => ?_⟩
    have := h j hj
    simpa [rd, show j < l.length by omega] using this
  simp [IndexFunc_int.f, this]
theorem IndexFunc_int.miss (p : Int → Bool) (l : List Int) (h : ∀ j : Nat, j < l.length → p (rd l j) = false) : IndexFunc_int.f p l = -1 := by
  have : l.findIdx? p = none := by
    rw [List.findIdx?_eq_none_iff]
    intro x hx
    obtain ⟨j, hj, rfl⟩ := List.getElem_of_mem hx
    have := h j hj
    simpa [rd, hj] using this
  simp [IndexFunc_int.f, this]
set_option maxHeartbeats 2000000 in
theorem IndexFunc_int.calls (p : Int → Bool) (g : Nat) (lb : Array Value) (eg : ∀ args w, (callFunc g args).run Try.prog w = .ok (.enter g args) w) (A0 : Option Addr) (c0 : Nat) (l0 : List Int) (w : World) (hr0 : Kd.C (Kd.int .i64) w A0 l0.length l0) (hbig : l0.length ≤ 9223372036854775807)
    (hp : ∀ W, Below w.heap.size w W → ∀ x : Int, Calls Try.prog g (#[.int .i64 x] ++ lb) W fun e w' => e = .returned (.bool (p x)) ∧ Below w.heap.size w w') :
    Calls Try.prog 125 #[.slice A0 l0.length c0, .func (.func g) #[] lb] w fun e w' => e = .returned (.int .i64 (IndexFunc_int.f p l0)) ∧ Below w.heap.size w w' := by
  have HR := Aside0.mk hr0
  have HPF := Aside0.mk hp
  clear hr0 hp
  go_enter Try.func125, Try.ntmps125
  go_wp2
  go_loopg [8] l0.length (fun kq v8 wr => ∃ n : Nat, Aside0 (n ≤ l0.length) ∧ Aside0 (l0.length - n = kq) ∧ v8 = .int .i64 (n : Int) ∧ Aside0 (Below w.heap.size w wr) ∧ Aside0 (∀ j : Nat, j < n → p (rd l0 j) = false))
  case atStart => exact ⟨0, ⟨Nat.zero_le _⟩, ⟨by omega⟩, rfl, ⟨Below.refl _ _⟩, ⟨fun j hj => absurd hj (Nat.not_lt_zero _)⟩⟩
  case round =>
    obtain ⟨n, HN, HK, rfl, HB, HP⟩ := hrel
    by_cases hlt : n < l0.length
    · have hlt' : decide ((n : Int) < (l0.length : Int)) = true := decide_eq_true (by omega)
      have hC := Kd.C_below HR.out HB.out
      obtain ⟨ad, e1, hx0⟩ := Kd.at_int hC (n : Int) (by omega) (by omega)
      subst e1
      rw [Int.toNat_natCast] at hx0
      have hcall := HPF.out wr HB.out (rd l0 (n : Int))
      generalize hy : rd l0 (n : Int) = y at hx0 hcall
      have HY := Aside0.mk hy
      clear hy hC
      cases hq : p y with
      | true =>
        rw [hq] at hcall
        have HC := Aside0.mk hcall
        have HQ := Aside0.mk hq
        clear hcall hq
        go_wp2_with fail
        refine HC.out.mono ?_
        rintro e w' ⟨rfl, hb'⟩
        go_wp2
        go_ret
        refine ⟨?_, hb'⟩
        rw [IndexFunc_int.hit p l0 n hlt (by rw [HY.out]; exact HQ.out) HP.out]
        rfl
      | false =>
        rw [hq] at hcall
        have HC := Aside0.mk hcall
        have HQ := Aside0.mk hq
        clear hcall hq
        go_wp2_with fail
        refine HC.out.mono ?_
        rintro e w' ⟨rfl, hb'⟩
        go_wp2
        go_roundg (l0.length - (n + 1))
        case measure => have := HK.out; omega
        case rel =>
          refine ⟨n + 1, ⟨hlt⟩, ⟨rfl⟩, by go_num, ⟨hb'⟩, ⟨fun j hj => ?_⟩⟩
          by_cases e : j = n
          · subst e; rw [HY.out]; exact HQ.out
          · exact HP.out j (by omega)
    · have hlt' : decide ((n : Int) < (l0.length : Int)) = false := decide_eq_false (by omega)
      have hn : n = l0.length := by have := HN.out; omega
      have HNN := Aside0.mk hn
      clear hn
      go_wp2
      go_ret
      exact ⟨by rw [IndexFunc_int.miss p l0 (fun j hj => HP.out j (by have := HNN.out; omega))]; rfl, HB.out⟩


/-! ### slices_ContainsFunc_int_int: function 111 -/
theorem ContainsFunc_int.any (p : Int → Bool) (l : List Int) : decide (0 ≤ IndexFunc_int.f p l) = l.any p := by
  unfold IndexFunc_int.f
  cases h : l.findIdx? p with
  | none =>
    rw [List.findIdx?_eq_none_iff] at h
    have : l.any p = false := by simpa using h
    simp [this]
  | some i =>
    rw [List.findIdx?_eq_some_iff_getElem] at h
    obtain ⟨hi, hp, _⟩ := h
    have : l.any p = true := List.any_eq_true.2 ⟨_, List.getElem_mem hi, hp⟩
    simp [this]
set_option maxHeartbeats 2000000 in
theorem ContainsFunc_int.calls (p : Int → Bool) (g : Nat) (lb : Array Value) (eg : ∀ args w, (callFunc g args).run Try.prog w = .ok (.enter g args) w) (A0 : Option Addr) (c0 : Nat) (l0 : List Int) (w : World) (hr0 : Kd.C (Kd.int .i64) w A0 l0.length l0) (hbig : l0.length ≤ 9223372036854775807)
    (hp : ∀ W, Below w.heap.size w W → ∀ x : Int, Calls Try.prog g (#[.int .i64 x] ++ lb) W fun e w' => e = .returned (.bool (p x)) ∧ Below w.heap.size w w') :
    Calls Try.prog 111 #[.slice A0 l0.length c0, .func (.func g) #[] lb] w fun e w' => e = .returned (.bool (l0.any p)) ∧ Below w.heap.size w w' := by
  have hcall := IndexFunc_int.calls p g lb eg A0 c0 l0 w hr0 hbig hp
  have HANY := Aside0.mk (ContainsFunc_int.any p l0)
  generalize IndexFunc_int.f p l0 = i at hcall HANY
  have HC := Aside0.mk hcall
  clear hp hr0 hcall
  go_enter Try.func111, Try.ntmps111
  go_wp2_with (go_at_call 125; refine HC.out.mono ?_; rintro e w' ⟨rfl, hb'⟩)
  go_ret
  exact ⟨by rw [← HANY.out]; rfl, hb'⟩


/-! ### shape_there: function 84 -/
/-- a place that is none -/
def shape_there.off (n : Nat) (i : Int) : Bool := decide (i < 0) || decide ((n : Int) ≤ i)
def shape_there.f (l0 : List (S102)) (l1 : List Int) : Option Bool :=
  if l1.length ≤ 9223372036854775807 then some (decide (shape_Check.f l0 = some 0) && !(l1.any (shape_there.off l0.length))) else none
set_option maxHeartbeats 2000000 in
theorem shape_there.lit (A0 : Option Addr) (n c0 : Nat) (B : Nat) (x : Int) (W : World) (hc : W.cell? ⟨B, 0, none⟩ = some (.slice A0 n c0)) :
    Calls Try.prog 112 #[.int .i64 x, .pointer (some ⟨B, 0, none⟩)] W fun e w' => e = .returned (.bool (shape_there.off n x)) ∧ W = w' := by
  unfold shape_there.off
  by_cases h0 : x < 0
  · have h0' : decide (x < 0) = true := decide_eq_true h0
    go_enter Try.func112, Try.ntmps112
    go_wp2
    go_ret
    exact ⟨by simp [h0], rfl⟩
  · have h0' : decide (x < 0) = false := decide_eq_false h0
    go_enter Try.func112, Try.ntmps112
    go_wp2
    go_ret
    exact ⟨by first | (simp; done) | (simp; omega), rfl⟩
set_option maxHeartbeats 2000000 in
theorem shape_there.calls (A0 : Option Addr) (c0 : Nat) (l0 : List (S102)) (A1 : Option Addr) (c1 : Nat) (l1 : List Int) (r : Bool) (w : World) (hr0 : Kd.C k102 w A0 l0.length l0) (hc0 : l0.length ≤ c0) (hr1 : Kd.C (Kd.int .i64) w A1 l1.length l1) (hc1 : l1.length ≤ c1) (h : shape_there.f l0 l1 = some r) :
    Calls Try.prog 84 #[.slice A0 l0.length c0, .slice A1 l1.length c1] w fun e w' => e = .returned (.bool r) ∧ Below w.heap.size w w' := by
  unfold shape_there.f at h
  split at h
  case isFalse => cases h
  case isTrue hbig =>
  have H := Option.some.inj h
  clear h
  obtain ⟨k, hk⟩ : ∃ k, shape_Check.f l0 = some k := ⟨_, rfl⟩
  rw [hk] at H
  have eg := Go.Proofs.enters_of Try.func112 (by kernel_rfl) rfl
  have hb0 : Below w.heap.size w (w.alloc (.cells #[.slice A0 l0.length c0] 57)) := (Below.refl _ _).alloc (Nat.le_refl _) _
  have hcell := cell_of_one (heap_alloc_new w (.cells #[.slice A0 l0.length c0] 57))
  have hcheck := shape_Check.calls A0 c0 l0 k (w.alloc (.cells #[.slice A0 l0.length c0] 57)) (Kd.C_below hr0 hb0) hc0 hk
  have hcont := fun W (hW : Below (w.alloc (.cells #[.slice A0 l0.length c0] 57)).heap.size (w.alloc (.cells #[.slice A0 l0.length c0] 57)) W) => ContainsFunc_int.calls (shape_there.off l0.length) 112 #[.pointer (some ⟨w.heap.size, 0, none⟩)] eg A1 c1 l1 W (Kd.C_below hr1 (hb0.trans (hW.mono (by simp)))) hbig
    (fun W2 h2 x => (shape_there.lit A0 l0.length c0 w.heap.size x W2 ((h2.cell (p := ⟨w.heap.size, 0, none⟩) (Nat.lt_of_lt_of_le (by simp) hW.size)).trans ((hW.cell (p := ⟨w.heap.size, 0, none⟩) (by simp)).trans hcell))).mono fun e w' ⟨he, hw⟩ => ⟨he, by subst hw; exact h2⟩)
  have HCH := Aside0.mk hcheck
  have HCO := Aside0.mk hcont
  clear hcheck hcont hr0 hr1 hk
  by_cases hk0 : k = 0
  · subst hk0
    generalize hany : l1.any (shape_there.off l0.length) = b at *
    have HH := Aside0.mk H
    clear H hany
    go_enter Try.func84, Try.ntmps84
    go_wp2_with (first | (go_at_call 38; refine HCH.out.mono ?_; rintro e w' ⟨rfl, hb1⟩) | (go_at_call 111; refine (HCO.out _ hb1).mono ?_; rintro e w' ⟨rfl, hb2⟩))
    go_ret
    refine ⟨?_, hb0.trans ((hb1.trans (hb2.mono hb1.size)).mono (by simp))⟩
    rw [← HH.out]
    simp
  · have hk1 : (k == 0) = false := beq_eq_false_iff_ne.mpr hk0
    have hr : r = false := by rw [← H]; simp [hk0]
    subst hr
    clear H
    go_enter Try.func84, Try.ntmps84
    go_wp2_with (go_at_call 38; refine HCH.out.mono ?_; rintro e w' ⟨rfl, hb1⟩)
    go_ret
    exact ⟨rfl, hb0.trans (hb1.mono (by simp))⟩


end Go.Proofs.Ytbiegkifpkeaoaa.XS
