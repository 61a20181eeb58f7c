import Derived.Test.YtoeioigpkfgppaaXFuel
import Derived.Test.YtoeioigpkfgppaaXVo
import Derived.Test.YtoeioigpkfgppaaXVp3
import Derived.Test.YtoeioigpkfgppaaXVp8
namespace Go.Proofs.Ytoeioigpkfgppaa.XV
open Go.RowKit Go.Proofs.Ytoeioigpkfgppaa.XRead Go.Proofs.Ytoeioigpkfgppaa.XV Go.Proofs.YtoeioigpkfgppaaW.PrintWords Go.Proofs.YtoeioigpkfgppaaW.PrintLast Go.Proofs.YtoeioigpkfgppaaW.PrintMore
open Go.Proofs.Ytoeioigpkfgppaa.XFuel
set_option linter.unusedVariables false
set_option linter.unusedSimpArgs false
/-! ### names: what counts as one -/
theorem place_loop (xs : List ByteArray) (s : ByteArray) (hx : xs.length ≤ 1000) : ∀ (d n : Nat), xs.length - n = d → n ≤ xs.length →
    ∃ r, Ev (fun k => semblanceref02_Place.l0 k xs s n) r ∧ (0 ≤ r ↔ ∃ x ∈ xs.drop n, x.toList = s.toList) := by
  intro d
  induction d with
  | zero =>
    intro n hd hn
    refine ⟨-1, ?_, ?_⟩
    · apply Ev.succ
      simp only [semblanceref02_Place.l0, show ¬ ((n : Int) < (xs.length : Int)) by omega, if_false]
      exact Ev.now _
    · rw [List.drop_of_length_le (by omega)]
      constructor
      · intro h; exact absurd h (by decide)
      · rintro ⟨x, hx, _⟩; cases hx
  | succ d ih =>
    intro n hd hn
    have h1 : (n : Int) < (xs.length : Int) := by omega
    have h2 : (0 : Int) ≤ (n : Int) := by omega
    have hg : n < xs.length := by omega
    have hr : rdOf ByteArray.empty xs (n : Int) = xs[n] := by simp [rdOf, hg]
    by_cases h : xs[n].toList = s.toList
    · refine ⟨n, ?_, ?_⟩
      · apply Ev.succ
        simp only [semblanceref02_Place.l0, h1, h2, hr, h, if_true]
        exact Ev.now _
      · rw [List.drop_eq_getElem_cons hg]
        exact ⟨fun _ => ⟨_, List.mem_cons_self, h⟩, fun _ => h2⟩
    · obtain ⟨r, he, hv⟩ := ih (n + 1) (by omega) (by omega)
      refine ⟨r, ?_, ?_⟩
      · apply Ev.succ
        simp only [semblanceref02_Place.l0, h1, h2, hr, h, if_true, if_false]
        rw [wrap_succ (by omega)]
        exact he
      · rw [hv, List.drop_eq_getElem_cons hg]
        constructor
        · rintro ⟨x, hx, e⟩; exact ⟨x, List.mem_cons_of_mem _ hx, e⟩
        · rintro ⟨x, hx, e⟩
          rcases List.mem_cons.1 hx with rfl | hx
          · exact absurd e h
          · exact ⟨x, hx, e⟩
def kws : List (List UInt8) := [[99, 104, 97, 114, 116], [101, 118, 101, 110, 116], [118, 97, 114], [108, 101, 97, 102], [111, 114], [97, 110, 100], [101, 110, 116, 101, 114], [101, 120, 105, 116], [111, 110], [97, 117, 116, 111], [97, 110, 121], [105, 110], [109, 105, 110], [109, 97, 120], [110, 111, 116], [116, 114, 117, 101], [102, 97, 108, 115, 101]]
theorem place_kws (s : ByteArray) : ∃ l, semblanceref02_Keywords.f = some l ∧ ∃ r, Ev (fun k => semblanceref02_Place.f k l s) r ∧ (0 ≤ r ↔ s.toList ∈ kws) := by
  obtain ⟨l, hl⟩ : ∃ l, semblanceref02_Keywords.f = some l := ⟨_, rfl⟩
  refine ⟨l, hl, ?_⟩
  have hlv : l.map ByteArray.toList = kws ∧ l.length ≤ 1000 := by
    unfold semblanceref02_Keywords.f at hl
    obtain rfl := Option.some.inj hl
    exact ⟨by decide +kernel, by decide⟩
  obtain ⟨r, he, hv⟩ := place_loop l s hlv.2 _ 0 rfl (Nat.zero_le _)
  refine ⟨r, he, hv.trans ?_⟩
  rw [List.drop_zero]
  have hk : ∀ (xs : List ByteArray), (∃ x ∈ xs, x.toList = s.toList) ↔ s.toList ∈ xs.map ByteArray.toList := by
    intro xs; simp [List.mem_map]
  rw [hk, hlv.1]
theorem keyword_ev (s : ByteArray) : Ev (fun k => names_Keyword.f k s) (decide (s.toList ∈ kws)) := by
  generalize hl : s.toList = t
  have j0 : ∀ b : Bool, Ev (fun k => names_Keyword.j0 k s b) (b || decide (t ∈ kws.drop 10)) := by
    intro b
    apply Ev.succ
    cases b with
    | true => simp only [names_Keyword.j0, if_true, Bool.true_or]; exact Ev.now _
    | false =>
      simp only [names_Keyword.j0, Bool.false_eq_true, if_false, hl, Bool.false_or]
      refine Ev.const ?_
      simp only [kws, List.drop_succ_cons, List.drop_zero, List.mem_cons, List.not_mem_nil, or_false]
      repeat' first
        | rfl
        | (split; · next h => simp [h])
        | (next h => simp [*])
      all_goals simp [*]
  simp only [names_Keyword.f, hl]
  by_cases h : t ∈ kws.take 10
  · have hm : t ∈ kws := List.mem_of_mem_take h
    rw [decide_eq_true hm]
    simp only [kws, List.take_succ_cons, List.take_zero, List.mem_cons, List.not_mem_nil, or_false] at h
    rcases h with h | h | h | h | h | h | h | h | h | h <;> subst h <;> (refine Ev.eq (j0 true) (by simp))
  · have hm : decide (t ∈ kws) = decide (t ∈ kws.drop 10) := by
      apply decide_eq_decide.2
      conv => lhs; rw [← List.take_append_drop 10 kws]
      rw [List.mem_append]
      exact ⟨fun h1 => h1.resolve_left h, Or.inr⟩
    rw [hm]
    simp only [kws, List.take_succ_cons, List.take_zero, List.mem_cons, List.not_mem_nil, or_false, not_or] at h
    obtain ⟨h1, h2, h3, h4, h5, h6, h7, h8, h9, h10⟩ := h
    have e10 : (t == ([97, 117, 116, 111] : List UInt8)) = false := by simp [h10]
    simp only [h1, h2, h3, h4, h5, h6, h7, h8, h9, if_false, e10]
    exact Ev.eq (j0 false) (by rw [Bool.false_or])
theorem isref_loop (s : ByteArray) (hs : s.size ≤ 12) : ∀ (d n : Nat), s.size - n = d → n ≤ s.size →
    Ev (fun k => semblanceref02_Is.l0 k s n) (((List.range s.size).drop n).all fun i => names_Is.ok i (bt s i).toNat) := by
  intro d
  induction d with
  | zero =>
    intro n hd hn
    rw [List.drop_of_length_le (by simp; omega)]
    apply Ev.succ
    simp only [semblanceref02_Is.l0, show ¬ ((n : Int) < (s.size : Int)) by omega, if_false]
    exact Ev.now _
  | succ d ih =>
    intro n hd hn
    have h1 : (n : Int) < (s.size : Int) := by omega
    have h2 : (0 : Int) ≤ (n : Int) := by omega
    have hb := bt_range s n
    have hg : n < (List.range s.size).length := by simp; omega
    have hn1 := ih (n + 1) (by omega) (by omega)
    rw [List.drop_eq_getElem_cons hg, List.getElem_range, List.all_cons]
    have hw : wrap64 (bt s n) = bt s n := wrap_in (by omega) (by omega)
    obtain ⟨c, hc⟩ : ∃ c, bt s n = c := ⟨_, rfl⟩
    rw [hc] at hb hw ⊢
    have j2 : ∀ b : Bool, b = (decide (97 ≤ c.toNat) && decide (c.toNat ≤ 122)) → Ev (fun k => semblanceref02_Is.j2 k s n c b) (names_Is.ok n c.toNat && ((List.range s.size).drop (n + 1)).all fun i => names_Is.ok i (bt s i).toNat) := by
      intro b hbv
      apply Ev.succ
      cases b with
      | true =>
        have : names_Is.ok n c.toNat = true := by unfold names_Is.ok; rw [← hbv, Bool.true_or]
        simp only [semblanceref02_Is.j2, if_true, this, Bool.true_and]
        rw [wrap_succ (by omega)]
        exact hn1
      | false =>
        have ho : names_Is.ok n c.toNat = (n != 0 && ((decide (48 ≤ c.toNat) && decide (c.toNat ≤ 57)) || c.toNat == 95)) := by unfold names_Is.ok; rw [← hbv, Bool.false_or]
        simp only [semblanceref02_Is.j2, Bool.false_eq_true, if_false, ho]
        by_cases h0 : n = 0
        · have h0' : (n : Int) = 0 := by omega
          simp only [h0', if_true]
          simp [h0]
          exact Ev.now _
        · have h0' : ¬ ((n : Int) = 0) := by omega
          have hne : (n != 0) = true := by simp [h0]
          simp only [h0', if_false, hne, Bool.true_and]
          by_cases h95 : c = 95
          · have : (c.toNat == 95) = true := by simp [h95]
            simp only [h95, if_true]
            simp only [← h95, this, Bool.or_true, Bool.true_and]
            rw [wrap_succ (by omega)]
            exact hn1
          · have e95 : (c.toNat == 95) = false := by simp; omega
            simp only [h95, if_false, e95, Bool.or_false]
            by_cases h48 : c < 48
            · have : decide (48 ≤ c.toNat) = false := by simp; omega
              simp only [h48, if_true, this, Bool.false_and]
              exact Ev.now _
            · have e48 : decide (48 ≤ c.toNat) = true := by simp; omega
              simp only [h48, if_false, e48, Bool.true_and]
              by_cases h57 : c > 57
              · have : decide (c.toNat ≤ 57) = false := by simp; omega
                simp only [h57, if_true, this, Bool.false_and]
                exact Ev.now _
              · have : decide (c.toNat ≤ 57) = true := by simp; omega
                simp only [h57, if_false, this, Bool.true_and]
                rw [wrap_succ (by omega)]
                exact hn1
    apply Ev.succ
    simp only [semblanceref02_Is.l0, h1, h2, hc, hw, if_true]
    by_cases h97 : c ≥ 97
    · simp only [h97, if_true]
      refine j2 _ ?_
      rw [show decide (97 ≤ c.toNat) = true by simp; omega, Bool.true_and]
      exact decide_eq_decide.2 (by omega)
    · simp only [h97, if_false]
      refine j2 _ ?_
      rw [show decide (97 ≤ c.toNat) = false by simp; omega, Bool.false_and]
/-- a name, as the program finds it and as the reference does -/
def isN (s : ByteArray) : Bool := if s.size = 0 then false else if 12 < s.size then false else if s.toList ∈ kws then false else names_Is.body s
theorem is_prog (s : ByteArray) : Ev (fun k => names_Is.f k s) (isN s) := by
  unfold isN
  simp only [names_Is.f]
  by_cases h0 : s.size = 0
  · simp only [h0, if_true]; exact Ev.now _
  · by_cases h1 : 12 < s.size
    · simp only [h0, h1, if_true, if_false]; exact Ev.now _
    · simp only [h0, h1, if_false]
      refine Ev.bind (keyword_ev s) ?_
      by_cases hk : s.toList ∈ kws
      · simp only [hk, decide_true, if_true]; exact Ev.now _
      · simp only [hk, decide_false, Bool.false_eq_true, if_false]; exact Ev.now _
theorem is_ref (s : ByteArray) : Ev (fun k => semblanceref02_Is.f k s) (isN s) := by
  unfold isN
  have j0 : ∀ b : Bool, s.size ≤ 12 → Ev (fun k => semblanceref02_Is.j0 k s b) (if b = true then false else names_Is.body s) := by
    intro b hs
    apply Ev.succ
    cases b with
    | true => simp only [semblanceref02_Is.j0, if_true]; exact Ev.now _
    | false =>
      simp only [semblanceref02_Is.j0, Bool.false_eq_true, if_false]
      have := isref_loop s hs _ 0 rfl (Nat.zero_le _)
      rw [List.drop_zero] at this
      exact this
  simp only [semblanceref02_Is.f]
  by_cases h0 : s.size = 0
  · have h0' : (s.size : Int) < 1 := by omega
    simp only [h0', if_true]
    rw [if_pos h0]
    exact Ev.eq (j0 true (by omega)) rfl
  · have h0' : ¬ ((s.size : Int) < 1) := by omega
    rw [if_neg h0]
    by_cases h1 : 12 < s.size
    · have h1' : (s.size : Int) > 12 := by omega
      simp only [h0', h1', if_true, if_false]
      rw [if_pos h1]
      apply Ev.succ
      simp only [semblanceref02_Is.j0, if_true]
      exact Ev.now _
    · have h1' : ¬ ((s.size : Int) > 12) := by omega
      simp only [h0', h1', if_false]
      rw [if_neg h1]
      obtain ⟨l, hl, r, hr, hv⟩ := place_kws s
      simp only [hl, Option.bind_some]
      refine Ev.bind hr (Ev.eq (j0 _ (by omega)) ?_)
      by_cases hk : s.toList ∈ kws
      · rw [if_pos hk, if_pos (decide_eq_true (hv.2 hk))]
      · rw [if_neg hk, if_neg (by rw [decide_eq_true_eq]; exact fun h => hk (hv.1 h))]

end Go.Proofs.Ytoeioigpkfgppaa.XV
