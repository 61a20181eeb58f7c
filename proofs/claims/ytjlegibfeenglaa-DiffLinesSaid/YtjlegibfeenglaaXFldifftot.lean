import Derived.Test.YtjlegibfeenglaaXFind
import Derived.Test.YtjlegibfeenglaaXFldiff
import Derived.Test.YtjlegibfeenglaaXFo
import Derived.Test.YtjlegibfeenglaaXFp10
import Derived.Test.YtjlegibfeenglaaXFp3
import Derived.Test.YtjlegibfeenglaaXFp4
import Derived.Test.YtjlegibfeenglaaXFuel
namespace Go.Proofs.Ytjlegibfeenglaa.XF
open Go.RowKit Go.Proofs.Ytjlegibfeenglaa.XRead Go.Proofs.Ytjlegibfeenglaa.XF Go.Proofs.YtjlegibfeenglaaW.PrintWords Go.Proofs.YtjlegibfeenglaaW.PrintLast Go.Proofs.YtjlegibfeenglaaW.PrintMore
open Go.Proofs.Ytjlegibfeenglaa.XFuel Go.Proofs.Ytjlegibfeenglaa.XFind
set_option linter.unusedVariables false
set_option linter.unusedSimpArgs false
/-! ### what always comes to an end -/
def Tot {α : Type} (g : Nat → Option α) : Prop := ∃ r, Ev g r
theorem Tot.succ {α : Type} {g : Nat → Option α} (h : Tot (fun k => g (k + 1))) : Tot g := by
  obtain ⟨r, hr⟩ := h
  exact ⟨r, Ev.succ hr⟩
theorem Tot.now {α : Type} (r : α) : Tot (fun _ => some r) := ⟨r, Ev.now r⟩
theorem Tot.bind {α β : Type} {g : Nat → Option α} {f : Nat → α → Option β} (h : Tot g) (k : ∀ a, Tot (fun n => f n a)) : Tot (fun n => (g n).bind (f n)) := by
  obtain ⟨a, ha⟩ := h
  obtain ⟨r, hr⟩ := k a
  exact ⟨r, Ev.bind ha hr⟩
theorem Tot.ite {α : Type} {c : Prop} [Decidable c] {f g : Nat → Option α} (h : c → Tot f) (k : ¬ c → Tot g) : Tot (fun n => if c then f n else g n) := by
  by_cases hc : c
  · simp only [hc, if_true]
    exact h hc
  · simp only [hc, if_false]
    exact k hc
theorem Tot.loop {σ α : Type} {L : Nat → σ → Int → Option α} (len : Nat) (hend : ∀ s, Tot (fun k => L k s (len : Int)))
    (hstep : ∀ n, n < len → (∀ s, Tot (fun k => L k s ((n + 1 : Nat) : Int))) → ∀ s, Tot (fun k => L k s (n : Int))) : ∀ d n, len - n = d → n ≤ len → ∀ s, Tot (fun k => L k s (n : Int)) := by
  intro d
  induction d with
  | zero =>
    intro n hd hn
    obtain rfl : n = len := by omega
    exact hend
  | succ d ih => exact fun n hd hn => hstep n (by omega) (ih (n + 1) (by omega) (by omega))
theorem Tot.loop0 {σ α : Type} {L : Nat → σ → Int → Option α} (len : Nat) (hend : ∀ s, Tot (fun k => L k s (len : Int)))
    (hstep : ∀ n, n < len → (∀ s, Tot (fun k => L k s ((n + 1 : Nat) : Int))) → ∀ s, Tot (fun k => L k s (n : Int))) (s : σ) : Tot (fun k => L k s 0) :=
  Tot.loop len hend hstep len 0 (by omega) (by omega) s
theorem terms_tot (l : List (S117)) : Tot (fun k => semblanceref12_terms.f k l) := by
  unfold semblanceref12_terms.f
  refine Tot.ite (fun _ => Tot.now _) (fun h => ?_)
  refine Tot.loop0 (L := fun k (_ : Unit) n => semblanceref12_terms.l0 k l n) l.length (fun _ => ?_) (fun n hn ih _ => ?_) ()
  · apply Tot.succ
    simp only [semblanceref12_terms.l0, Int.lt_irrefl, if_false]
    exact Tot.now _
  · have h1 : (n : Int) < (l.length : Int) := by omega
    have h2 : (0 : Int) ≤ (n : Int) := by omega
    apply Tot.succ
    simp only [semblanceref12_terms.l0, h1, h2, if_true]
    refine Tot.ite (fun _ => Tot.now _) (fun _ => ?_)
    rw [wrap_succ (by omega)]
    exact ih ()
theorem weigh_tot (l : List (S130)) (hl : l.length ≤ 9223372036854775807) : Tot (fun k => semblanceref12_weigh.f k l) := by
  unfold semblanceref12_weigh.f
  refine Tot.loop0 (L := fun k (s : Int) n => semblanceref12_weigh.l0 k l s n) l.length (fun _ => ?_) (fun n hn ih s => ?_) 0
  · apply Tot.succ
    simp only [semblanceref12_weigh.l0, Int.lt_irrefl, if_false]
    exact Tot.now _
  · have h1 : (n : Int) < (l.length : Int) := by omega
    have h2 : (0 : Int) ≤ (n : Int) := by omega
    apply Tot.succ
    simp only [semblanceref12_weigh.l0, h1, h2, if_true]
    rw [wrap_succ (by omega)]
    exact Tot.bind (terms_tot _) (fun _ => Tot.ite (fun _ => ih _) (fun _ => ih _))
theorem strplace_tot (l : List ByteArray) (s : ByteArray) (hl : l.length ≤ 9223372036854775807) : Tot (fun k => semblanceref02_Place.f k l s) := by
  unfold semblanceref02_Place.f
  refine Tot.loop0 (L := fun k (_ : Unit) n => semblanceref02_Place.l0 k l s n) l.length (fun _ => ?_) (fun n hn ih _ => ?_) ()
  · apply Tot.succ
    simp only [semblanceref02_Place.l0, Int.lt_irrefl, if_false]
    exact Tot.now _
  · have h1 : (n : Int) < (l.length : Int) := by omega
    have h2 : (0 : Int) ≤ (n : Int) := by omega
    apply Tot.succ
    simp only [semblanceref02_Place.l0, h1, h2, if_true]
    refine Tot.ite (fun _ => Tot.now _) (fun _ => ?_)
    rw [wrap_succ (by omega)]
    exact ih ()
theorem long_tot (l : List ByteArray) (hl : l.length ≤ 9223372036854775807) : Tot (fun k => semblanceref11_Long.f k l) := by
  unfold semblanceref11_Long.f
  have hf : ∀ n : Int, Tot (fun k => semblanceref11_Long.j1 k l n false) := by
    intro n
    apply Tot.succ
    simp only [semblanceref11_Long.j1, Bool.false_eq_true, if_false]
    exact Tot.ite (fun _ => Tot.now _) (fun _ => Tot.bind (strplace_tot l _ hl) (fun _ => Tot.now _))
  refine Tot.loop0 (L := fun k (_ : Unit) n => semblanceref11_Long.l0 k l n) l.length (fun _ => ?_) (fun n hn ih _ => ?_) ()
  · apply Tot.succ
    simp only [semblanceref11_Long.l0, Int.lt_irrefl, if_false]
    exact hf _
  · have h1 : (n : Int) < (l.length : Int) := by omega
    have h2 : (0 : Int) ≤ (n : Int) := by omega
    apply Tot.succ
    simp only [semblanceref11_Long.l0, h1, if_true]
    cases hd : decide ((n : Int) < 100) with
    | false => exact hf _
    | true =>
      apply Tot.succ
      simp only [semblanceref11_Long.j1, h1, h2, if_true]
      refine Tot.ite (fun _ => Tot.now _) (fun _ => ?_)
      rw [wrap_succ (by omega)]
      exact ih ()
theorem light_tot (a0 : ByteArray) (a1 : List ByteArray) (a2 : List (S95)) (a3 : List (S99)) (h1 : a1.length ≤ 9223372036854775807) (h2 : a2.length ≤ 9223372036854775807) (h3 : a3.length ≤ 9223372036854775807)
    (hF : ∀ x ∈ a3, F99 x) : Tot (fun k => semblanceref12_Light.f k a0 a1 a2 a3) := by
  have hl1 : ∀ s : Int, Tot (fun k => semblanceref12_Light.l1 k s 0 a0 a1 a2 a3) := by
    intro s
    refine Tot.loop0 (L := fun k (s : Int) n => semblanceref12_Light.l1 k s n a0 a1 a2 a3) a3.length (fun s => ?_) (fun n hn ih s => ?_) s
    · apply Tot.succ
      simp only [semblanceref12_Light.l1, Int.lt_irrefl, if_false]
      apply Tot.succ
      simp only [semblanceref12_Light.j3, Bool.false_eq_true, if_false]
      exact Tot.now _
    · have g1 : (n : Int) < (a3.length : Int) := by omega
      have g2 : (0 : Int) ≤ (n : Int) := by omega
      have hz : rd_T99 a3 (n : Int) = a3.getD n z99 := by unfold rd_T99; rw [Int.toNat_natCast]
      have hx := getF hF hn
      apply Tot.succ
      simp only [semblanceref12_Light.l1, g1, if_true]
      apply Tot.succ
      simp only [semblanceref12_Light.j3, g1, g2, if_true, hz]
      generalize a3.getD n z99 = x at *
      have hl2 : ∀ s : Int, Tot (fun k => semblanceref12_Light.l2 k s (n : Int) 0 a0 a1 a2 a3 x.f0 x.f1 x.f2 x.f3 x.f4 x.f5) := by
        intro s
        refine Tot.loop0 (L := fun k (s : Int) m => semblanceref12_Light.l2 k s (n : Int) m a0 a1 a2 a3 x.f0 x.f1 x.f2 x.f3 x.f4 x.f5) x.f5.length (fun s => ?_) (fun m hm ih2 s => ?_) s
        · apply Tot.succ
          simp only [semblanceref12_Light.l2, Int.lt_irrefl, if_false]
          rw [wrap_succ (by omega)]
          exact ih _
        · have q1 : (m : Int) < (x.f5.length : Int) := by omega
          have q2 : (0 : Int) ≤ (m : Int) := by omega
          have hb := hx.2.2.2.2.2
          have hm5 : x.f5.length ≤ 9223372036854775807 := by have := hb.1; omega
          have hmem : rd_T102 x.f5 (m : Int) ∈ x.f5 := by
            unfold rd_T102
            rw [Int.toNat_natCast]
            simp only [List.getD, List.getElem?_eq_getElem hm, Option.getD_some]
            exact List.getElem_mem hm
          have ht := hb.2 _ hmem
          obtain ⟨t, et⟩ : ∃ t, rd_T102 x.f5 (m : Int) = t := ⟨_, rfl⟩
          rw [et] at ht
          have hj6 : ∀ (s : Int) (c : Bool), Tot (fun k => semblanceref12_Light.j6 k s (n : Int) (m : Int) c a0 a1 a2 a3 x.f0 x.f1 x.f2 x.f3 x.f4 x.f5 t.f0 t.f1 t.f2 t.f3) := by
            intro s c
            apply Tot.succ
            simp only [semblanceref12_Light.j6]
            refine Tot.ite (fun _ => Tot.now _) (fun _ => ?_)
            refine Tot.bind (weigh_tot t.f2 (by have := ht.2.2.1.1; omega)) (fun _ => Tot.bind (terms_tot t.f1) (fun _ => ?_))
            rw [wrap_succ (by omega)]
            exact ih2 _
          apply Tot.succ
          simp only [semblanceref12_Light.l2, q1, q2, if_true, et]
          exact Tot.ite (fun _ => hj6 _ _) (fun _ => Tot.ite (fun _ => hj6 _ _) (fun _ => hj6 _ _))
      have hj4 : ∀ (s : Int) (c : Bool), Tot (fun k => semblanceref12_Light.j4 k s (n : Int) c a0 a1 a2 a3 x.f0 x.f1 x.f2 x.f3 x.f4 x.f5) := by
        intro s c
        apply Tot.succ
        simp only [semblanceref12_Light.j4]
        refine Tot.ite (fun _ => Tot.now _) (fun _ => ?_)
        exact Tot.bind (weigh_tot x.f3 (by have := hx.2.2.2.1.1; omega)) (fun _ => Tot.bind (weigh_tot x.f4 (by have := hx.2.2.2.2.1.1; omega)) (fun _ => hl2 _))
      exact Tot.ite (fun _ => Tot.ite (fun _ => hj4 _ _) (fun _ => Tot.ite (fun _ => hj4 _ _) (fun _ => Tot.ite (fun _ => hj4 _ _) (fun _ => hj4 _ _)))) (fun _ => Tot.now _)
  have hj0 : ∀ c : Bool, Tot (fun k => semblanceref12_Light.j0 k c a0 a1 a2 a3) := by
    intro c
    apply Tot.succ
    simp only [semblanceref12_Light.j0]
    refine Tot.ite (fun _ => Tot.now _) (fun _ => ?_)
    refine Tot.loop0 (L := fun k (_ : Unit) n => semblanceref12_Light.l0 k n a0 a1 a2 a3) a2.length (fun _ => ?_) (fun n hn ih _ => ?_) ()
    · apply Tot.succ
      simp only [semblanceref12_Light.l0, Int.lt_irrefl, if_false]
      exact hl1 0
    · have g1 : (n : Int) < (a2.length : Int) := by omega
      have g2 : (0 : Int) ≤ (n : Int) := by omega
      apply Tot.succ
      simp only [semblanceref12_Light.l0, g1, g2, if_true]
      refine Tot.ite (fun _ => Tot.now _) (fun _ => ?_)
      rw [wrap_succ (by omega)]
      exact ih ()
  unfold semblanceref12_Light.f
  exact Tot.ite (fun _ => hj0 _) (fun _ => Tot.bind (long_tot a1 h1) (fun _ => Tot.ite (fun _ => hj0 _) (fun _ => Tot.ite (fun _ => hj0 _) (fun _ => hj0 _))))
theorem awake53 : Ev (fun k => semblancelaw53_awake.f k) true := by
  refine Ev.of (fun k => semblancelaw53_awake.mono k) (k := 40) ?_
  decide +kernel

end Go.Proofs.Ytjlegibfeenglaa.XF
