/-
  A region that draws, in one order laid down ahead (L): each step asks for the next of L alone.
-/
import Derived.Test.YtbkaiojofgmbnaaWMore
import Derived.Test.YtbkaiojofgmbnaaWTab
import Derived.Test.YtbkaiojofgmbnaaXGrow
import Derived.KernelRfl
namespace Go.Proofs.Ytbkaiojofgmbnaa.XReg
open Go.RowKit Go.Proofs.YtbkaiojofgmbnaaW.PrintWords Go.Proofs.YtbkaiojofgmbnaaW.PrintLast Go.Proofs.YtbkaiojofgmbnaaW.PrintMore
set_option linter.unusedVariables false
/-- what has come up when m of L are over -/
def ordL (n : Nat) (L : List Nat) (m : Nat) : List Bool := (List.range n).map fun i => (L.take m).contains i
abbrev ordA (n : Nat) (L : List Nat) (m : Nat) : Array Bool := (ordL n L m).toArray
theorem ordA_zero (n : Nat) (L : List Nat) : Array.replicate n false = ordA n L 0 := by
  apply Array.toList_inj.1
  simp [ordL, List.map_const']
theorem toL_ {ops : Array Oper} {i : Nat} {oi : Oper} (h : ops.toList[i]? = some oi) : ops[i]? = some oi := by simpa using h
section
variable {P : Program} {ops : Array Oper} {Q : Exit → Act → World → Prop} {S : World → Prop} {md : Region.Mode} {n m fuel i : Nat} {L : List Nat} {oi : Oper} {a a' : Act} {w : World} {v : Value}
theorem rs_ {id : Nat} (n : Nat) (L : List Nat) (S : World → Prop) (hn : ops.size = n) (hm : P.follows .mixedOrders = true) (hS : S w.drew) (h : S w.drew → wpAnyLast P .any ops Q S [] n (ordA n L 0) a w.drew) : (Code.region id ops true).wp P Q a w :=
  start_ _ hm hn (ordA_zero _ L) hS h
theorem pu_ (hL : L[m]? = some i) (hi : ops.toList[i]? = some oi) (hc : anyT (rtab md ops) (ordL n L m) (ordL n L (m + 1)) i = true) (hQ : ∀ c a w, Q (.panic c) (a.put oi.dst undef) w → Q (.panic c) a w)
    (hw : Region.wanted oi (yielded ops a.tmps) = false) (ha : a.put oi.dst undef = a') (h : wpAnyLast P md ops Q S [] fuel (ordA n L (m + 1)) a' w) : wpAnyLast P md ops Q S [] (fuel + 1) (ordA n L m) a w :=
  pure_ _ (toL_ hi) rfl (any_of rfl hc) hQ (Or.inr ⟨hw, rfl⟩) ha h
theorem pw_ (hL : L[m]? = some i) (hi : ops.toList[i]? = some oi) (hc : anyT (rtab md ops) (ordL n L m) (ordL n L (m + 1)) i = true) (hQ : ∀ c a w, Q (.panic c) (a.put oi.dst v) w → Q (.panic c) a w)
    (hw : Region.wanted oi (yielded ops a.tmps) = true) (hy : ∀ W, (execOp a.eval oi).run P W = .ok (.value v) W) (ha : a.put oi.dst v = a') (h : wpAnyLast P md ops Q S [] fuel (ordA n L (m + 1)) a' w) : wpAnyLast P md ops Q S [] (fuel + 1) (ordA n L m) a w :=
  pure_ _ (toL_ hi) rfl (any_of rfl hc) hQ (Or.inl ⟨hw, hy⟩) ha h
theorem tk_ (hS : S w) (hL : L[m]? = some i) (hi : ops.toList[i]? = some oi) (hc : takeT (rtab md ops) [] (ordL n L m) (ordL n L (m + 1)) i = true) (hQ : ∀ c a w, Q (.panic c) (a.put oi.dst v) w → Q (.panic c) a w)
    (hw : Region.wanted oi (yielded ops a.tmps) = true) (hy : ∀ W, S W → (execOp a.eval oi).run P W = .ok (.value v) W) (ha : a.put oi.dst v = a') (h : wpAnyLast P md ops Q S [] fuel (ordA n L (m + 1)) a' w) : wpAnyLast P md ops Q S [] (fuel + 1) (ordA n L m) a w :=
  take_ _ (toL_ hi) rfl (take_of rfl hc) hQ (Or.inl ⟨hw, hy⟩) hS ha h
/-- one operation alone may come up -/
theorem on_ (hL : L[m]? = some i) (hi : ops.toList[i]? = some oi) (hc : (readyT (rtab md ops).2 (ordL n L m) == [i] && (ordL n L m).set i true == ordL n L (m + 1)) = true)
    (h : ∀ K : Act → World → Prop, Shut (∀ a' w', S w' → (S w' → wpAnyLast P md ops Q S [] fuel (ordA n L (m + 1)) a' w') → K a' w') → if Region.wanted oi (yielded ops a.tmps) = true then Oper.wp P oi a w K Q else K (a.put oi.dst undef) w) :
    wpAnyLast P md ops Q S [] (fuel + 1) (ordA n L m) a w := one_ _ (toL_ hi) rfl (one_of rfl hc) (by simp) h
/-- a call of a Go function -/
theorem cs_ {f : FuncId} {fn : Func} {as : Array Operand} {ts : Array TypeId} {args : Array Value} (hop : oi.op = .call { callee := .value (.func f), args := as, argTypes := ts }) (hL : L[m]? = some i) (hi : ops.toList[i]? = some oi) (hc : (readyT (rtab md ops).2 (ordL n L m) == [i] && (ordL n L m).set i true == ordL n L (m + 1)) = true)
    (hf : P.funcs[f]? = some fn) (hname : (fn.name == "runtime.NumGoroutine") = false) (hb : fn.body.isSome = true) (hw : Region.wanted oi (yielded ops a.tmps) = true) (hargs : as.map a.eval = args)
    (h : Calls P f args w fun e w' => ∃ v, e = .returned v ∧ S w' ∧ (S w' → wpAnyLast P md ops Q S [] fuel (ordA n L (m + 1)) (a.put oi.dst v) w')) :
    wpAnyLast P md ops Q S [] (fuel + 1) (ordA n L m) a w := by
  refine on_ hL hi hc (fun K hK => ?_)
  refine goes_ hf hname hb args hw rfl hop hargs ?_
  exact h.mono fun e w' ⟨v, he, hS, hn⟩ => ⟨v, he, hK.out _ _ hS hn⟩
theorem pq_ (h : wpAnyLast P md ops Q S [] fuel (ordA n L (m + 1)) a' w) (hL : L[m]? = some i := by rfl) (hi : ops.toList[i]? = some oi := by rfl) (hc : anyT (rtab md ops) (ordL n L m) (ordL n L (m + 1)) i = true := by kernel_rfl) (hQ : ∀ c a w, Q (.panic c) (a.put oi.dst undef) w → Q (.panic c) a w := by exact fun _ _ _ h => h)
    (hw : Region.wanted oi (yielded ops a.tmps) = false := by rfl) (ha : a.put oi.dst undef = a' := by simp only [Act.put, Go.Proofs.Ytbkaiojofgmbnaa.XGrow.sb_, Go.Proofs.Ytbkaiojofgmbnaa.XGrow.s0_, Go.Proofs.Ytbkaiojofgmbnaa.XGrow.s1_, i64_w]; rfl) : wpAnyLast P md ops Q S [] (fuel + 1) (ordA n L m) a w := pu_ hL hi hc hQ hw ha h
theorem tq_ (hS : S w) (h : wpAnyLast P md ops Q S [] fuel (ordA n L (m + 1)) a' w) (hL : L[m]? = some i := by rfl) (hi : ops.toList[i]? = some oi := by rfl) (hc : takeT (rtab md ops) [] (ordL n L m) (ordL n L (m + 1)) i = true := by kernel_rfl) (hQ : ∀ c a w, Q (.panic c) (a.put oi.dst v) w → Q (.panic c) a w := by exact fun _ _ _ h => h)
    (hw : Region.wanted oi (yielded ops a.tmps) = true := by rfl) (hy : ∀ W, S W → (execOp a.eval oi).run P W = .ok (.value v) W := by intro W_ hS_; (repeat (obtain ⟨hs_, hS_⟩ := hS_)); go_simp; with_reducible rfl) (ha : a.put oi.dst v = a' := by simp only [Act.put, Go.Proofs.Ytbkaiojofgmbnaa.XGrow.sb_, Go.Proofs.Ytbkaiojofgmbnaa.XGrow.s0_, Go.Proofs.Ytbkaiojofgmbnaa.XGrow.s1_, i64_w]; rfl) : wpAnyLast P md ops Q S [] (fuel + 1) (ordA n L m) a w := tk_ hS hL hi hc hQ hw hy ha h
theorem cq_ {f : FuncId} {fn : Func} {as : Array Operand} {ts : Array TypeId} {args : Array Value} (hf : P.funcs[f]? = some fn)
    (h : Calls P f args w fun e w' => ∃ v, e = .returned v ∧ S w' ∧ (S w' → wpAnyLast P md ops Q S [] fuel (ordA n L (m + 1)) (a.put oi.dst v) w')) (hL : L[m]? = some i := by rfl) (hi : ops.toList[i]? = some oi := by rfl) (hop : oi.op = .call { callee := .value (.func f), args := as, argTypes := ts } := by rfl) (hc : (readyT (rtab md ops).2 (ordL n L m) == [i] && (ordL n L m).set i true == ordL n L (m + 1)) = true := by kernel_rfl)
    (hname : (fn.name == "runtime.NumGoroutine") = false := by kernel_rfl) (hb : fn.body.isSome = true := by rfl) (hw : Region.wanted oi (yielded ops a.tmps) = true := by rfl) (hargs : as.map a.eval = args := by go_simp; with_reducible rfl) : wpAnyLast P md ops Q S [] (fuel + 1) (ordA n L m) a w := cs_ hop hL hi hc hf hname hb hw hargs h
theorem dn_ (hr : (readyT (rtab md ops).2 (ordL n L m) == []) = true) (h : Q .normal a w) : wpAnyLast P md ops Q S [] fuel (ordA n L m) a w := done_ (done_of rfl hr) h
end
end Go.Proofs.Ytbkaiojofgmbnaa.XReg
