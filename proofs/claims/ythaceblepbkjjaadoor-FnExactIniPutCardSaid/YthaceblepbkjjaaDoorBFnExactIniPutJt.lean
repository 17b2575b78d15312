import Derived.Test.YthaceblepbkjjaaDoorBFnExactIniPutEv
import Derived.Test.YthaceblepbkjjaaDoorBFnExactIniPutq4
namespace Go.Proofs.YthaceblepbkjjaaDoor.Jt
set_option linter.unusedVariables false
set_option linter.unusedSimpArgs false
open Go.RowKit Go.Proofs.YthaceblepbkjjaaDoor.Q Go.Proofs.YthaceblepbkjjaaDoor.Evs Go.Proofs.YthaceblepbkjjaaDoorW.PrintWords Go.Proofs.YthaceblepbkjjaaDoorW.PrintLast

/-! A text of JSON between quotes: byte by byte. -/
def hexs : List Int := [48, 49, 50, 51, 52, 53, 54, 55, 56, 57, 97, 98, 99, 100, 101, 102]
def hx (n : Int) : Int := hexs.getD n.toNat 0
def plainB (c : Int) : Bool := decide (32 ≤ c ∧ c ≤ 126 ∧ c ≠ 34 ∧ c ≠ 92)
def esc (c : Int) : List Int := if plainB c then [c] else if c = 34 ∨ c = 92 then [92, c] else [92, 117, 48, 48, hx (c / 16), hx (c % 16)]
theorem escape_fin : ∀ c : Fin 256, spec_l7Escape.f 1 (c.val : Int) = some (strOfNums (esc c.val)) := by decide +kernel
theorem plain_fin : ∀ c : Fin 256, impl_plain.f (c.val : Int) = some (plainB c.val) := by decide +kernel
theorem hex_fin : ∀ c : Fin 256, impl_hex.f (c.val : Int) = some (strOfNums [hx ((c.val : Int) / 16), hx ((c.val : Int) % 16)]) := by decide +kernel
theorem fin_of {p : Int → Prop} (h : ∀ c : Fin 256, p c.val) (c : Int) (h0 : 0 ≤ c) (h1 : c ≤ 255) : p c := by
 have := h ⟨c.toNat, by omega⟩
 simpa [show ((c.toNat : Nat) : Int) = c by omega] using this
theorem escape (k : Nat) (c : Int) (h0 : 0 ≤ c) (h1 : c ≤ 255) : spec_l7Escape.f (k + 1) c = some (strOfNums (esc c)) := by
 rw [← fin_of (p := fun c => spec_l7Escape.f 1 c = some (strOfNums (esc c))) escape_fin c h0 h1]
 unfold spec_l7Escape.f
 simp only [spec_l7Escape.j0]
theorem plain (c : Int) (h0 : 0 ≤ c) (h1 : c ≤ 255) : impl_plain.f c = some (plainB c) := fin_of (p := fun c => impl_plain.f c = some (plainB c)) plain_fin c h0 h1
theorem hex (c : Int) (h0 : 0 ≤ c) (h1 : c ≤ 255) : impl_hex.f c = some (strOfNums [hx (c / 16), hx (c % 16)]) := fin_of (p := fun c => impl_hex.f c = some (strOfNums [hx (c / 16), hx (c % 16)])) hex_fin c h0 h1
theorem str_app (x y : List Int) : strOfNums x ++ strOfNums y = strOfNums (x ++ y) := by
 apply ByteArray.ext
 simp [strOfNums, ByteArray.data_append]
theorem esc_len (c : Int) : (esc c).length ≤ 6 := by unfold esc; (repeat' split) <;> simp
def escs (a : ByteArray) : Nat → Int → List Int
 | 0, _ => []
 | n + 1, i => esc (bt a i) ++ escs a n (i + 1)
def Byte (x : Int) : Prop := 0 ≤ x ∧ x ≤ 255
theorem bytes_str (l : List Int) (h : ∀ x ∈ l, Byte x) : bytesOf (strOfNums l) = l := by
 unfold bytesOf strOfNums
 simp only [List.map_map]
 conv => rhs; rw [← List.map_id l]
 apply List.map_congr_left
 intro x hx
 have hb := h x hx
 unfold Byte at hb
 simp
 omega
theorem esc_bytes_fin : ∀ c : Fin 256, ∀ x ∈ esc c.val, 0 ≤ x ∧ x ≤ 255 := by decide +kernel
theorem esc_bytes (c : Int) (h0 : 0 ≤ c) (h1 : c ≤ 255) : ∀ x ∈ esc c, Byte x := fin_of (p := fun c => ∀ x ∈ esc c, 0 ≤ x ∧ x ≤ 255) esc_bytes_fin c h0 h1
theorem escs_len (a : ByteArray) : ∀ n i, (escs a n i).length ≤ 6 * n := by
 intro n
 induction n with
 | zero => intro i; simp [escs]
 | succ n ih => intro i; have := ih (i + 1); have := esc_len (bt a i); simp only [escs, List.length_append]; omega
theorem str_size (l : List Int) : (strOfNums l).size = l.length := strOfNums_size l
theorem spec_l : ∀ (n k : Nat) (a : ByteArray) (l : List Int) (i : Int), n + 1 < k → i + n = a.size → a.size ≤ 1048576 → 0 ≤ i → l.length + 6 * n + 1 ≤ 9223372036854775807 →
  spec_l7Quote.l0 k a (strOfNums l) i = some (strOfNums (l ++ escs a n i ++ [34])) := by
 intro n
 induction n with
 | zero =>
  intro k a l i hk hi hz h0 hl
  obtain ⟨k, rfl⟩ : ∃ m, k = m + 1 := ⟨k - 1, by omega⟩
  rw [spec_l7Quote.l0, if_neg (by omega), if_pos (by rw [str_size]; omega)]
  simp only [escs, List.append_nil]
  rw [← str_app l [34]]; rfl
 | succ n ih =>
  intro k a l i hk hi hz h0 hl
  obtain ⟨k, rfl⟩ : ∃ m, k = m + 1 + 1 := ⟨k - 2, by omega⟩
  have hb := bt_range a i
  have he := esc_len (bt a i)
  rw [spec_l7Quote.l0, if_pos (by omega), if_pos h0, escape k _ hb.1 hb.2, Option.bind_some, if_pos (by rw [str_size, str_size]; omega), str_app, w64 _ (by omega), ih (k + 1) a (l ++ esc (bt a i)) (i + 1) (by omega) (by omega) hz (by omega) (by rw [List.length_append]; omega)]
  simp only [escs, List.append_assoc]
theorem impl_l : ∀ (n k : Nat) (a : ByteArray) (l : List Int) (i : Int), n < k → i + n = a.size → a.size ≤ 1048576 → 0 ≤ i → l.length + 6 * n + 1 < 140737488355328 →
  impl_jsonText.l0 k a l (a.size : Int) i = some (strOfNums (l ++ escs a n i ++ [34])) := by
 intro n
 induction n with
 | zero =>
  intro k a l i hk hi hz h0 hl
  obtain ⟨k, rfl⟩ : ∃ m, k = m + 1 := ⟨k - 1, by omega⟩
  rw [impl_jsonText.l0, if_neg (by omega)]
  simp [escs, show l.length < 140737488355328 by omega]
 | succ n ih =>
  intro k a l i hk hi hz h0 hl
  obtain ⟨k, rfl⟩ : ∃ m, k = m + 1 := ⟨k - 1, by omega⟩
  have hb := bt_range a i
  have key : impl_jsonText.l0 (k + 1) a l (a.size : Int) i = impl_jsonText.l0 k a (l ++ esc (bt a i)) (a.size : Int) (i + 1) := by
   rw [impl_jsonText.l0, if_pos (by omega), if_pos h0, if_pos (by omega), plain _ hb.1 hb.2, Option.bind_some, w64 _ (by omega), hex _ hb.1 hb.2]
   have hby := esc_bytes _ hb.1 hb.2
   unfold esc at hby ⊢
   by_cases c1 : plainB (bt a i) = true
   ·rw [if_pos c1, if_pos (by omega), if_pos c1]
   ·rw [if_neg c1] at hby
    rw [if_neg c1, if_neg c1]
    by_cases c3 : bt a i = 34
    ·rw [if_pos c3, Option.bind_some, if_pos (by simp; omega), if_pos (.inl c3)]
    ·rw [if_neg c3]
     by_cases c4 : bt a i = 92
     ·rw [if_pos c4, Option.bind_some, if_pos (by simp; omega), if_pos (.inr c4)]
     ·rw [if_neg (show ¬ (bt a i = 34 ∨ bt a i = 92) by omega)] at hby
      rw [if_neg c4, Option.bind_some, if_pos (by rw [str_size]; simp), if_neg (show ¬ (bt a i = 34 ∨ bt a i = 92) by omega)]
      have e : (⟨#[92, 117, 48, 48]⟩ : ByteArray) ++ strOfNums [hx (bt a i / 16), hx (bt a i % 16)] = strOfNums [92, 117, 48, 48, hx (bt a i / 16), hx (bt a i % 16)] := str_app [92, 117, 48, 48] _
      rw [e, if_pos (by rw [str_size]; simp; omega), bytes_str _ hby]
  have he := esc_len (bt a i)
  rw [key, ih k a (l ++ esc (bt a i)) (i + 1) (by omega) (by omega) hz (by omega) (by rw [List.length_append]; omega)]
  simp only [escs, List.append_assoc]
/-- a text between quotes -/
def quoted (a : ByteArray) : ByteArray := strOfNums ([34] ++ escs a a.size 0 ++ [34])
theorem quoted_size (a : ByteArray) : (quoted a).size ≤ 6 * a.size + 2 := by
 unfold quoted
 rw [str_size]
 have := escs_len a a.size 0
 simp only [List.length_append, List.length_cons, List.length_nil]
 omega
theorem spec_put (a : ByteArray) (hs : a.size ≤ 1048576) : Evn (fun k => spec_l7Quote.f k a) (quoted a) :=
 ⟨a.size + 2, fun k hk => spec_l a.size k a [34] 0 (by omega) (by omega) hs (by omega) (by simp; omega)⟩
theorem impl_put (a : ByteArray) (hs : a.size ≤ 1048576) : Evn (fun k => impl_jsonText.f k a) (quoted a) :=
 ⟨a.size + 1, fun k hk => impl_l a.size k a [34] 0 (by omega) (by omega) hs (by omega) (by simp; omega)⟩
end Go.Proofs.YthaceblepbkjjaaDoor.Jt
