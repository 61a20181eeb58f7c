import Derived.Test.YtoeioigpkfgppaaXBytes
import Derived.Test.YtoeioigpkfgppaaXFind
import Derived.Test.YtoeioigpkfgppaaXFuel
import Derived.Test.YtoeioigpkfgppaaXNamesPlain
import Derived.Test.YtoeioigpkfgppaaXRlrt
import Derived.Test.YtoeioigpkfgppaaXRo
import Derived.Test.YtoeioigpkfgppaaXRp10
import Derived.Test.YtoeioigpkfgppaaXRp11
import Derived.Test.YtoeioigpkfgppaaXRp12
import Derived.Test.YtoeioigpkfgppaaXRp13
import Derived.Test.YtoeioigpkfgppaaXRp6
import Derived.Test.YtoeioigpkfgppaaXRp7
namespace Go.Proofs.Ytoeioigpkfgppaa.XR
open Go.RowKit Go.Proofs.Ytoeioigpkfgppaa.XRead Go.Proofs.Ytoeioigpkfgppaa.XR Go.Proofs.YtoeioigpkfgppaaW.PrintWords Go.Proofs.YtoeioigpkfgppaaW.PrintLast Go.Proofs.YtoeioigpkfgppaaW.PrintMore
open Go.Proofs.Ytoeioigpkfgppaa.XFuel Go.Proofs.Ytoeioigpkfgppaa.XFind Go.Proofs.Ytoeioigpkfgppaa.XNamesPlain Go.Proofs.Ytoeioigpkfgppaa.XBytes
set_option linter.unusedVariables false
set_option linter.unusedSimpArgs false
theorem awake14_ev : Ev (fun k => semblancelaw14_awake.f k) true := Ev.of (fun k => semblancelaw14_awake.mono k) (k := 60) (by decide +kernel)
theorem wrap_next {n : Nat} (h : n < 1000000) : wrap64 ((n : Int) + 1) = ((n + 1 : Nat) : Int) := by unfold wrap64; omega
/-- is a name among the variables', the states', the events' names? -/
theorem hasVar_loop (a0 : ByteArray) (l1 : List ByteArray) (l2 : List (S51)) (l3 : List (S55)) (s : ByteArray) (hl : l2.length ≤ 100000) : ∀ (d n : Nat), l2.length - n = d → n ≤ l2.length →
    Ev (fun k => semblanceref14_HasVar.l0 k s n a0 l1 l2 l3) ((l2.drop n).any fun x => x.f0.toList == s.toList) := by
  intro d
  induction d with
  | zero =>
    intro n hd hn
    have h1 : ¬ ((n : Int) < (l2.length : Int)) := by omega
    rw [List.drop_of_length_le (by omega)]
    apply Ev.succ
    simp only [semblanceref14_HasVar.l0, h1, if_false]
    exact Ev.now _
  | succ d ih =>
    intro n hd hn
    have h1 : (n : Int) < (l2.length : Int) := by omega
    have h2 : (0 : Int) ≤ (n : Int) := by omega
    have hg : n < l2.length := by omega
    have hr : rd_T51 l2 (n : Int) = l2[n] := by simp [rd_T51, hg]
    rw [List.drop_eq_getElem_cons hg, List.any_cons]
    apply Ev.succ
    by_cases h : l2[n].f0.toList = s.toList
    · simp only [semblanceref14_HasVar.l0, h1, h2, hr, h, if_true, beq_self_eq_true, Bool.true_or]
      exact Ev.now _
    · simp only [semblanceref14_HasVar.l0, h1, h2, hr, h, if_true, if_false, beq_eq_false_iff_ne.2 h, Bool.false_or, wrap_next (show n < 1000000 by omega)]
      exact ih (n + 1) (by omega) (by omega)
theorem hasVar_ev (a0 : ByteArray) (l1 : List ByteArray) (l2 : List (S51)) (l3 : List (S55)) (s : ByteArray) (hl : l2.length ≤ 100000) : Ev (fun k => semblanceref14_HasVar.f k a0 l1 l2 l3 s) (l2.any fun x => x.f0.toList == s.toList) :=
  hasVar_loop a0 l1 l2 l3 s hl _ 0 rfl (Nat.zero_le _)
theorem hasState_loop (a0 : ByteArray) (l1 : List ByteArray) (l2 : List (S51)) (l3 : List (S55)) (s : ByteArray) (hl : l3.length ≤ 100000) : ∀ (d n : Nat), l3.length - n = d → n ≤ l3.length →
    Ev (fun k => semblanceref14_HasState.l0 k s n a0 l1 l2 l3) ((l3.drop n).any fun x => x.f0.toList == s.toList) := by
  intro d
  induction d with
  | zero =>
    intro n hd hn
    have h1 : ¬ ((n : Int) < (l3.length : Int)) := by omega
    rw [List.drop_of_length_le (by omega)]
    apply Ev.succ
    simp only [semblanceref14_HasState.l0, h1, if_false]
    exact Ev.now _
  | succ d ih =>
    intro n hd hn
    have h1 : (n : Int) < (l3.length : Int) := by omega
    have h2 : (0 : Int) ≤ (n : Int) := by omega
    have hg : n < l3.length := by omega
    have hr : rd_T55 l3 (n : Int) = l3[n] := by simp [rd_T55, hg]
    rw [List.drop_eq_getElem_cons hg, List.any_cons]
    apply Ev.succ
    by_cases h : l3[n].f0.toList = s.toList
    · simp only [semblanceref14_HasState.l0, h1, h2, hr, h, if_true, beq_self_eq_true, Bool.true_or]
      exact Ev.now _
    · simp only [semblanceref14_HasState.l0, h1, h2, hr, h, if_true, if_false, beq_eq_false_iff_ne.2 h, Bool.false_or, wrap_next (show n < 1000000 by omega)]
      exact ih (n + 1) (by omega) (by omega)
theorem hasState_ev (a0 : ByteArray) (l1 : List ByteArray) (l2 : List (S51)) (l3 : List (S55)) (s : ByteArray) (hl : l3.length ≤ 100000) : Ev (fun k => semblanceref14_HasState.f k a0 l1 l2 l3 s) (l3.any fun x => x.f0.toList == s.toList) :=
  hasState_loop a0 l1 l2 l3 s hl _ 0 rfl (Nat.zero_le _)
theorem hasEvent_loop (a0 : ByteArray) (l1 : List ByteArray) (l2 : List (S51)) (l3 : List (S55)) (s : ByteArray) (hl : l1.length ≤ 100000) : ∀ (d n : Nat), l1.length - n = d → n ≤ l1.length →
    Ev (fun k => semblanceref14_HasEvent.l0 k s n a0 l1 l2 l3) ((l1.drop n).any fun x => x.toList == s.toList) := by
  intro d
  induction d with
  | zero =>
    intro n hd hn
    have h1 : ¬ ((n : Int) < (l1.length : Int)) := by omega
    rw [List.drop_of_length_le (by omega)]
    apply Ev.succ
    simp only [semblanceref14_HasEvent.l0, h1, if_false]
    exact Ev.now _
  | succ d ih =>
    intro n hd hn
    have h1 : (n : Int) < (l1.length : Int) := by omega
    have h2 : (0 : Int) ≤ (n : Int) := by omega
    have hg : n < l1.length := by omega
    have hr : rdOf ByteArray.empty l1 (n : Int) = l1[n] := by simp [rdOf, hg]
    rw [List.drop_eq_getElem_cons hg, List.any_cons]
    apply Ev.succ
    by_cases h : l1[n].toList = s.toList
    · simp only [semblanceref14_HasEvent.l0, h1, h2, hr, h, if_true, beq_self_eq_true, Bool.true_or]
      exact Ev.now _
    · simp only [semblanceref14_HasEvent.l0, h1, h2, hr, h, if_true, if_false, beq_eq_false_iff_ne.2 h, Bool.false_or, wrap_next (show n < 1000000 by omega)]
      exact ih (n + 1) (by omega) (by omega)
theorem hasEvent_ev (a0 : ByteArray) (l1 : List ByteArray) (l2 : List (S51)) (l3 : List (S55)) (s : ByteArray) (hl : l1.length ≤ 100000) : Ev (fun k => semblanceref14_HasEvent.f k a0 l1 l2 l3 s) (l1.any fun x => x.toList == s.toList) :=
  hasEvent_loop a0 l1 l2 l3 s hl _ 0 rfl (Nat.zero_le _)
/-- how heavy terms are, acts: there is an answer -/
theorem terms_loop (l : List (S47)) (hl : l.length ≤ 45) : ∀ (d n : Nat), l.length - n = d → n ≤ l.length → ∃ r, Ev (fun k => semblanceref12_terms.l0 k l n) r := by
  intro d
  induction d with
  | zero =>
    intro n hd hn
    have h1 : ¬ ((n : Int) < (l.length : Int)) := by omega
    exact ⟨_, Ev.succ (by simp only [semblanceref12_terms.l0, h1, if_false]; exact Ev.now _)⟩
  | succ d ih =>
    intro n hd hn
    have h1 : (n : Int) < (l.length : Int) := by omega
    have h2 : (0 : Int) ≤ (n : Int) := by omega
    by_cases h : (((rd_T47 l (n : Int)).f2.size : Nat) : Int) > 100
    · exact ⟨_, Ev.succ (by simp only [semblanceref12_terms.l0, h1, h2, h, if_true]; exact Ev.now _)⟩
    · obtain ⟨r, hr⟩ := ih (n + 1) (by omega) (by omega)
      exact ⟨r, Ev.succ (by simp only [semblanceref12_terms.l0, h1, h2, h, if_true, if_false, wrap_next (show n < 1000000 by omega)]; exact hr)⟩
theorem terms_ev (l : List (S47)) : ∃ r, Ev (fun k => semblanceref12_terms.f k l) r := by
  by_cases h : (l.length : Int) > 45
  · exact ⟨_, by unfold semblanceref12_terms.f; simp only [h, if_true]; exact Ev.now _⟩
  · obtain ⟨r, hr⟩ := terms_loop l (by omega) _ 0 rfl (Nat.zero_le _)
    exact ⟨r, by unfold semblanceref12_terms.f; simp only [h, if_false]; exact hr⟩
theorem weigh_loop (l : List (S93)) (hl : l.length ≤ 1000) : ∀ (d n : Nat) (a : Int), l.length - n = d → n ≤ l.length → ∃ r, Ev (fun k => semblanceref12_weigh.l0 k l a n) r := by
  intro d
  induction d with
  | zero =>
    intro n a hd hn
    have h1 : ¬ ((n : Int) < (l.length : Int)) := by omega
    exact ⟨_, Ev.succ (by simp only [semblanceref12_weigh.l0, h1, if_false]; exact Ev.now _)⟩
  | succ d ih =>
    intro n a hd hn
    have h1 : (n : Int) < (l.length : Int) := by omega
    have h2 : (0 : Int) ≤ (n : Int) := by omega
    obtain ⟨t, ht⟩ := terms_ev (rd_T93 l (n : Int)).f2
    by_cases h : (((rd_T93 l (n : Int)).f0.size : Nat) : Int) > 100
    · obtain ⟨r, hr⟩ := ih (n + 1) (wrap64 (wrap64 (wrap64 (a + 1) + t) + 1000)) (by omega) (by omega)
      exact ⟨r, Ev.succ (by simp only [semblanceref12_weigh.l0, h1, h2, if_true, wrap_next (show n < 1000000 by omega)]; exact Ev.bind ht (by simp only [h, if_true]; exact hr))⟩
    · obtain ⟨r, hr⟩ := ih (n + 1) (wrap64 (wrap64 (a + 1) + t)) (by omega) (by omega)
      exact ⟨r, Ev.succ (by simp only [semblanceref12_weigh.l0, h1, h2, if_true, wrap_next (show n < 1000000 by omega)]; exact Ev.bind ht (by simp only [h, if_false]; exact hr))⟩
theorem weigh_ev (l : List (S93)) (hl : l.length ≤ 1000) : ∃ r, Ev (fun k => semblanceref12_weigh.f k l) r := by
  unfold semblanceref12_weigh.f
  exact weigh_loop l hl _ 0 0 rfl (Nat.zero_le _)
theorem light_ts (l : List (S58)) : ∀ all, ∃ r, Ev (fun k => semblanceref12_Light.ts k l all) r := by
  induction l with
  | nil => intro all; exact ⟨_, Ev.now _⟩
  | cons y l ih =>
    intro all
    by_cases h : semblanceref12_Light.t y = true
    · exact ⟨_, by simp only [semblanceref12_Light.ts, h, if_true]; exact Ev.now _⟩
    · have h10 : y.f2.length ≤ 10 := by
        unfold semblanceref12_Light.t at h
        simp only [Bool.or_eq_true, decide_eq_true_eq, not_or] at h
        omega
      obtain ⟨a, ha⟩ := weigh_ev y.f2 (by omega)
      obtain ⟨b, hb⟩ := terms_ev y.f1
      obtain ⟨r, hr⟩ := ih (wrap64 (wrap64 (wrap64 (all + 1) + a) + b))
      exact ⟨r, by simp only [semblanceref12_Light.ts, h, if_false]; exact Ev.bind ha (Ev.bind hb hr)⟩
theorem light_ss (l : List (S55)) : ∀ all, ∃ r, Ev (fun k => semblanceref12_Light.ss k l all) r := by
  induction l with
  | nil => intro all; exact ⟨_, Ev.now _⟩
  | cons x l ih =>
    intro all
    by_cases h0 : all ≤ 160
    · by_cases h : semblanceref12_Light.s x = true
      · exact ⟨_, by simp only [semblanceref12_Light.ss, h0, h, if_true]; exact Ev.now _⟩
      · have h10 : x.f3.length ≤ 10 ∧ x.f4.length ≤ 10 := by
          unfold semblanceref12_Light.s at h
          simp only [Bool.or_eq_true, decide_eq_true_eq, not_or] at h
          omega
        obtain ⟨a, ha⟩ := weigh_ev x.f3 (by omega)
        obtain ⟨b, hb⟩ := weigh_ev x.f4 (by omega)
        obtain ⟨p, hp⟩ := light_ts x.f5 (wrap64 (wrap64 (all + a) + b))
        cases p with
        | none => exact ⟨_, by simp only [semblanceref12_Light.ss, h0, h, if_true, if_false]; exact Ev.bind ha (Ev.bind hb (Ev.bind hp (Ev.now _)))⟩
        | some all' =>
          obtain ⟨r, hr⟩ := ih all'
          exact ⟨r, by simp only [semblanceref12_Light.ss, h0, h, if_true, if_false]; exact Ev.bind ha (Ev.bind hb (Ev.bind hp hr))⟩
    · exact ⟨_, by simp only [semblanceref12_Light.ss, h0, if_false]; exact Ev.now _⟩
theorem long_j1 (l : List ByteArray) (n : Int) : ∃ b, Ev (fun k => semblanceref11_Long.j1 k l n false) b ∧ (b = false → l.length ≤ 30) := by
  by_cases h : (l.length : Int) > 30
  · exact ⟨true, Ev.succ (by simp only [semblanceref11_Long.j1, h, Bool.false_eq_true, if_false, if_true]; exact Ev.now _), fun e => by cases e⟩
  · obtain ⟨r, hr⟩ := place_any l ⟨#[]⟩ (by omega)
    exact ⟨_, Ev.succ (by simp only [semblanceref11_Long.j1, h, Bool.false_eq_true, if_false]; exact Ev.bind hr (Ev.now _)), fun _ => by omega⟩
theorem long_loop (l : List ByteArray) : ∀ (d n : Nat), 100 - n = d → n ≤ l.length → n ≤ 100 → ∃ b, Ev (fun k => semblanceref11_Long.l0 k l n) b ∧ (b = false → l.length ≤ 30) := by
  intro d
  induction d with
  | zero =>
    intro n hd hn h100
    obtain ⟨b, hb, hf⟩ := long_j1 l n
    have h2 : decide ((n : Int) < 100) = false := decide_eq_false (by omega)
    refine ⟨b, Ev.succ ?_, hf⟩
    by_cases h1 : (n : Int) < (l.length : Int)
    · simp only [semblanceref11_Long.l0, h1, h2, if_true]; exact hb
    · simp only [semblanceref11_Long.l0, h1, if_false]; exact hb
  | succ d ih =>
    intro n hd hn h100
    by_cases h1 : (n : Int) < (l.length : Int)
    · have h2 : decide ((n : Int) < 100) = true := decide_eq_true (by omega)
      have h3 : (0 : Int) ≤ (n : Int) := by omega
      by_cases h : (((rdOf ByteArray.empty l (n : Int)).size : Nat) : Int) > 100
      · exact ⟨true, Ev.succ (Ev.succ (by simp only [semblanceref11_Long.l0, semblanceref11_Long.j1, h1, h2, h3, h, if_true]; exact Ev.now _)), fun e => by cases e⟩
      · obtain ⟨b, hb, hf⟩ := ih (n + 1) (by omega) (by omega) (by omega)
        exact ⟨b, Ev.succ (Ev.succ (by simp only [semblanceref11_Long.l0, semblanceref11_Long.j1, h1, h2, h3, h, if_true, if_false, wrap_next (show n < 1000000 by omega)]; exact hb)), hf⟩
    · obtain ⟨b, hb, hf⟩ := long_j1 l n
      exact ⟨b, Ev.succ (by simp only [semblanceref11_Long.l0, h1, if_false]; exact hb), hf⟩
/-- whether a chart is light is answered of every chart; a light one is small -/
theorem light_ev (a0 : ByteArray) (l1 : List ByteArray) (l2 : List (S51)) (l3 : List (S55)) : ∃ b, Ev (fun k => semblanceref12_Light.f k a0 l1 l2 l3) b ∧ (b = true → l1.length ≤ 30 ∧ l2.length ≤ 10 ∧ l3.length ≤ 65) := by
  obtain ⟨t, ht, hf⟩ := long_loop l1 _ 0 rfl (Nat.zero_le _) (by omega)
  unfold semblanceref12_Light.f
  by_cases h : (decide ((a0.size : Int) > 100) || (t || (decide ((l2.length : Int) > 10) || decide ((l3.length : Int) > 65)))) = true
  · exact ⟨false, Ev.bind ht (by simp only [h, if_true]; exact Ev.now _), fun e => by cases e⟩
  · have hs : l1.length ≤ 30 ∧ l2.length ≤ 10 ∧ l3.length ≤ 65 := by
      simp only [Bool.or_eq_true, decide_eq_true_eq, not_or] at h
      exact ⟨hf (by simpa using h.2.1), by omega, by omega⟩
    by_cases h2 : (l2.any fun x => decide ((x.f0.size : Int) > 100)) = true
    · exact ⟨false, Ev.bind ht (by simp only [h, h2, if_false, if_true]; exact Ev.now _), fun e => by cases e⟩
    · obtain ⟨r, hr⟩ := light_ss l3 0
      exact ⟨r, Ev.bind ht (by simp only [h, h2, if_false]; exact hr), fun _ => hs⟩
/-! ### what is noted at all places -/
theorem brk_some {α : Type} {h : Nat → Option (List α)} {g : Nat → List α} : ∀ {n : Nat}, (∀ i, i < n → h i = some (g i)) → brk_all n h = some (rules_all n g)
  | 0, _ => rfl
  | n + 1, hh => by
    show (brk_all n h).bind _ = _
    rw [brk_some (fun i hi => hh i (by omega)), Option.bind_some, hh n (by omega), Option.bind_some, rules_all_succ]
theorem rules_all_list {α : Type} (xs : List Int) (f : Int → α) : rules_all xs.length (fun j => [f (rd xs (j : Int))]) = xs.map f := by
  have h1 : ∀ (l : List Nat) (g : Nat → α), l.flatMap (fun j => [g j]) = l.map g := fun l g => by
    induction l with
    | nil => rfl
    | cons x l ih => rw [List.flatMap_cons, ih]; rfl
  unfold rules_all
  rw [h1]
  apply List.ext_getElem
  · simp
  · intro i h2 h3
    simp only [List.length_map] at h3
    simp [rd, h3]
theorem twn_all {α : Type} (l : List (List UInt8)) (f : Int → α) : ∀ n, (twn l n).map f = rules_all n (fun i => if l.getD i [] ∈ l.take i then [f (i : Int)] else [])
  | 0 => rfl
  | n + 1 => by
    rw [twn_succ, List.map_append, twn_all l f n, rules_all_succ]
    congr 1
    split <;> rfl
/-- twins of a list, as flaws: place by place -/
theorem twins_of (rule : Int) (l : List ByteArray) (hl : l.length ≤ 1000000) (hs : ∀ s ∈ l, s.size ≤ 1000000) : rules_twins.of rule l = some (rules_all l.length (fun i => if (l.map bts).getD i [] ∈ (l.map bts).take i then [(⟨rule, (i : Int), 0⟩ : S66)] else [])) := by
  unfold rules_twins.of names_Twins.f
  rw [if_pos hl, if_pos (List.all_eq_true.2 fun s h => decide_eq_true (hs s h))]
  refine congrArg some ((rules_all_list (twinsF l) (fun i => (⟨rule, i, 0⟩ : S66))).trans ?_)
  unfold twinsF
  rw [twn_all]
theorem tlb (x : ByteArray) : x.toList = bts x := tl_eq x
/-- whether a text stood there already -/
theorem dup_iff (l : List ByteArray) (i : Nat) (hi : i < l.length) : ((List.range i).any fun m => ((rdOf ByteArray.empty l (m : Int)).toList == (rdOf ByteArray.empty l (i : Int)).toList)) = decide ((l.map bts).getD i [] ∈ (l.map bts).take i) := by
  rw [Bool.eq_iff_iff, List.any_eq_true, decide_eq_true_eq]
  have hg : ∀ m : Nat, m < l.length → (rdOf ByteArray.empty l (m : Int)).toList = (l.map bts).getD m [] := fun m hm => by
    simp [rdOf, hm, tlb]
  constructor
  · rintro ⟨m, hm, h⟩
    have hm := List.mem_range.1 hm
    have h := beq_iff_eq.1 h
    rw [hg m (by omega), hg i hi] at h
    rw [← h, List.getD, List.getElem?_eq_getElem (by simp; omega), Option.getD_some]
    exact List.mem_iff_getElem.2 ⟨m, by simp; omega, by simp⟩
  · intro h
    obtain ⟨m, hm, h⟩ := List.mem_iff_getElem.1 h
    simp only [List.length_take, List.length_map] at hm
    refine ⟨m, List.mem_range.2 (by omega), beq_iff_eq.2 ?_⟩
    rw [hg m (by omega), hg i hi, ← h]
    simp [List.getD, List.getElem?_eq_getElem (show m < l.length by omega)]

end Go.Proofs.Ytoeioigpkfgppaa.XR
