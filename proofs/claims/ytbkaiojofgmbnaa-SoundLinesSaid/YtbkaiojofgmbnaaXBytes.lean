/-
  Bytes: plain lemmas on texts as lists.
-/
namespace Go.Proofs.Ytbkaiojofgmbnaa.XBytes
theorem tl_loop (bs : ByteArray) : ∀ (n i : Nat) (r : List UInt8), bs.size - i = n → ByteArray.toList.loop bs i r = r.reverse ++ bs.data.toList.drop i := by
  intro n
  induction n with
  | zero =>
    intro i r h
    have hd : bs.data.toList.length ≤ i := by rw [Array.length_toList]; have : bs.data.size = bs.size := rfl; omega
    rw [ByteArray.toList.loop, if_neg (by omega), List.drop_of_length_le hd, List.append_nil]
  | succ n ih =>
    intro i r h
    have hi : i < bs.data.toList.length := by rw [Array.length_toList]; have : bs.data.size = bs.size := rfl; omega
    rw [ByteArray.toList.loop, if_pos (by omega), ih (i + 1) _ (by omega), List.drop_eq_getElem_cons hi]
    have : bs.get! i = bs.data.toList[i] := by
      show bs.data[i]! = _
      rw [getElem!_pos bs.data i (by simpa using hi)]
      simp
    rw [this]
    simp
theorem tl_eq (bs : ByteArray) : bs.toList = bs.data.toList := by
  unfold ByteArray.toList
  rw [tl_loop bs bs.size 0 [] (by omega)]
  rfl
theorem tl_length (bs : ByteArray) : bs.toList.length = bs.size := by rw [tl_eq, Array.length_toList]; rfl
theorem tl_inj {a b : ByteArray} (h : a.toList = b.toList) : a = b := by
  rw [tl_eq, tl_eq] at h
  cases a; cases b
  simpa using h
theorem tl_get (bs : ByteArray) (i : Nat) (h : i < bs.size) : bs.toList.getD i 0 = bs[i] := by
  have h2 : i < bs.data.toList.length := by rw [Array.length_toList]; exact h
  rw [tl_eq]
  simp only [List.getD, List.getElem?_eq_getElem h2, Option.getD_some, Array.getElem_toList]
  rfl
end Go.Proofs.Ytbkaiojofgmbnaa.XBytes
