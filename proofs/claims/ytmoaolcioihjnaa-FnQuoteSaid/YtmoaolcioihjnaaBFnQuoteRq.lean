import Derived.Test.YtmoaolcioihjnaaBFnQuoteRt
namespace Go.Proofs.Ytmoaolcioihjnaa.Qg
set_option linter.unusedVariables false
set_option linter.unusedSimpArgs false
open Go.RowKit Go.Proofs.Ytmoaolcioihjnaa.Q Go.Proofs.Ytmoaolcioihjnaa.Evs Go.Proofs.YtmoaolcioihjnaaW.PrintWords Go.Proofs.YtmoaolcioihjnaaW.PrintLast
theorem raw_len (a : ByteArray) : ∀ n i, (raw a n i).length = n
  | 0, _ => rfl
  | n + 1, i => by simp [raw, raw_len a n]
theorem raw_get (a : ByteArray) : ∀ (n : Nat) (i : Int) (j : Nat), j < n → (raw a n i)[j]? = some (bt a (i + j))
  | 0, _, _, h => absurd h (Nat.not_lt_zero _)
  | n + 1, i, 0, _ => by simp [raw]
  | n + 1, i, j + 1, h => by
    simp only [raw, List.getElem?_cons_succ]
    rw [raw_get a n (i + 1) j (by omega)]
    congr 2
    omega
theorem raw_all (a : ByteArray) : strOfNums (raw a a.size 0) = a := by
  have e : raw a a.size 0 = bytesOf a := by
    apply List.ext_getElem?
    intro j
    by_cases h : j < a.size
    · rw [raw_get a a.size 0 j h]
      have h2 : ((0 : Int) + (j : Int)).toNat < a.size := by omega
      rw [← bt_at _ _ h2]
      unfold bytesOf
      rw [List.getElem?_map, List.getElem?_eq_getElem (by simpa using h)]
      simp only [Option.map_some]
      congr 2
      simp
      rfl
    · rw [List.getElem?_eq_none (by rw [raw_len]; omega), List.getElem?_eq_none (by rw [bytesOf_length]; omega)]
  rw [e]
  apply ByteArray.ext
  apply Array.ext'
  rw [strOfNums_data]
  unfold bytesOf
  rw [List.map_map]
  conv => rhs; rw [← List.map_id a.data.toList]
  apply List.map_congr_left
  intro b _
  simp
theorem escs_bytes (a : ByteArray) : ∀ n i x, x ∈ Qp.escs a n i → Qp.Byte x
  | 0, _, x, h => absurd h List.not_mem_nil
  | n + 1, i, x, h => by
    rcases List.mem_append.1 h with h | h
    · exact Qp.esc_bytes (bt a i) (bt_range a i).1 (bt_range a i).2 x h
    · exact escs_bytes a n (i + 1) x h
theorem cut_quoted (E : List Int) : (strOfNums ([34] ++ E ++ [34])).extract 1 (E.length + 1) = strOfNums E := by
  apply ByteArray.ext
  apply Array.ext'
  simp [strOfNums, ByteArray.data_extract, List.extract_eq_take_drop]
theorem get_put (a : ByteArray) (hs : a.size ≤ 200000) : Evn (fun k => impl_QuoteGet.f k (Qp.quoted a)) (a, true) := by
  have hE := escs_bytes a a.size 0
  have hl := Qp.escs_len a a.size 0
  have back := read_back a (Qp.escs a a.size 0) hE (by omega) a.size 0 [] [] (by simp) (by simp)
  simp only [List.nil_append, List.length_nil, raw_all] at back
  unfold Qp.quoted
  generalize Qp.escs a a.size 0 = E at *
  have hz : (strOfNums ([34] ++ E ++ [34])).size = E.length + 2 := by rw [Qp.str_size]; simp
  have hL : ∀ x, x ∈ [34] ++ E ++ [34] → Qp.Byte x := fun x hx => by
    simp at hx
    rcases hx with rfl | hx | rfl
    · exact ⟨by omega, by omega⟩
    · exact hE x hx
    · exact ⟨by omega, by omega⟩
  have b0 : bt (strOfNums ([34] ++ E ++ [34])) 0 = 34 := by
    have := bt_str ([34] ++ E ++ [34]) hL 0 (by simp)
    simpa using this
  have b1 : bt (strOfNums ([34] ++ E ++ [34])) ((E.length : Int) + 2 - 1) = 34 := by
    have := bt_str ([34] ++ E ++ [34]) hL (E.length + 1) (by simp)
    rw [show ((E.length + 1 : Nat) : Int) = (E.length : Int) + 2 - 1 by omega] at this
    rw [this]
    simp
  have hc := cut_quoted E
  generalize strOfNums ([34] ++ E ++ [34]) = q at *
  have e : wrap64 ((q.size : Int) - 1) = (q.size : Int) - 1 := w1 (by omega)
  have e2 : (q.size : Int) - 1 = (E.length : Int) + 2 - 1 := by omega
  have ki : ∀ k, impl_QuoteGet.f k q = impl_QuoteGet.j0 k q false := fun k => by
    rw [impl_QuoteGet.f, if_neg (by omega), if_pos (by omega), if_pos b0, e, if_pos (by omega), if_pos (by omega), e2, b1]
    rfl
  refine Evn.of ki (Evn.step (fun k => ?_) back)
  rw [impl_QuoteGet.j0, if_neg (by decide), e, if_pos (by omega), if_pos (by omega), show ((q.size : Int) - 1).toNat = E.length + 1 by omega, hc]
  rfl
end Go.Proofs.Ytmoaolcioihjnaa.Qg
