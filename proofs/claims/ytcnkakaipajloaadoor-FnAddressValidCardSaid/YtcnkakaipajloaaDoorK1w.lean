/- What the printed functions on words come to; no condition. -/
import Derived.Test.YtcnkakaipajloaaDoorK1
import Derived.Test.YtcnkakaipajloaaDoorQ3
import Derived.Test.YtcnkakaipajloaaDoorQ4
set_option linter.unusedVariables false
set_option linter.unusedSimpArgs false
namespace Go.Proofs.YtcnkakaipajloaaDoor.Q
open Go.RowKit Go.Proofs.YtcnkakaipajloaaDoorV.PrintWords Go.Proofs.YtcnkakaipajloaaDoorV.PrintLast Go.Proofs.YtcnkakaipajloaaDoorV.PrintMore
/-! ## Words: what quoting, splitting and joining come to -/
def qB (s : ByteArray) : ByteArray := strOfNums (quoteW (bytesOf s))
theorem extract_one (s : ByteArray) (i : Nat) (h : i < s.size) : s.extract i (i + 1) = strOfNums [bt s i] := by
  rw [extract_S, L_drop s i h, show i + 1 - i = 1 by omega]
  rfl
theorem extract_from_size (s : ByteArray) (i : Nat) : (s.extract i s.size).size = s.size - i := by rw [← L_len, L_from, List.length_drop, L_len]
theorem quoteW_IsB {l : List Int} (h : IsB l) : IsB (quoteW l) := by
  intro x hx
  rcases quoteW_mem hx with rfl | rfl | hx
  · omega
  · omega
  · exact h x hx
theorem L_qB (s : ByteArray) : bytesOf (qB s) = quoteW (bytesOf s) := L_S (quoteW_IsB (L_IsB s))
theorem qB_size (s : ByteArray) : (qB s).size ≤ 402 := by
  rw [← L_len, L_qB]
  unfold quoteW
  split
  · rename_i ht
    rw [textOk_iff] at ht
    have := esc_length (bytesOf s)
    split
    · omega
    · simp only [List.length_cons, List.length_append, List.length_nil]; omega
  · simp
theorem impl_QuoteWord_l0 (s : ByteArray) (hs : s.size ≤ 1048576) : ∀ (d i : Nat) (acc : List Int), i + d = s.size → acc.length ≤ 2 * i + 1 → Ev (fun k => impl_QuoteWord.l0 k s acc (s.size : Int) (i : Int)) (strOfNums (acc ++ (esc ((bytesOf s).drop i) ++ [34]))) := by
  intro d
  induction d with
  | zero =>
    intro i acc hi ha
    refine ev_succ ?_
    simp only [impl_QuoteWord.l0]
    rw [L_drop_nil s i (by omega), esc, List.nil_append]
    exact ev_neg (by omega) (ev_pos (by omega) (Ev.now _))
  | succ d ih =>
    intro i acc hi ha
    refine ev_succ ?_
    simp only [impl_QuoteWord.l0]
    rw [L_drop s i (by omega), wrap_succ i (by omega)]
    refine ev_pos (by omega) (ev_pos (by omega) (ev_pos (by omega) ?_))
    by_cases h1 : bt s i = 34
    · refine ev_pos h1 (ev_pos (by omega) (ev_bind1 rfl (ev_pos (by simp only [List.length_append, List.length_cons, List.length_nil]; omega) ?_)))
      refine ev_cast (ih (i + 1) _ (by omega) (by simp only [List.length_append, List.length_cons, List.length_nil]; omega)) ?_
      rw [esc, if_pos (.inl h1)]
      simp only [List.append_assoc, List.cons_append, List.nil_append]
    · refine ev_neg h1 ?_
      by_cases h2 : bt s i = 92
      · refine ev_pos h2 (ev_pos (by omega) (ev_bind1 rfl (ev_pos (by simp only [List.length_append, List.length_cons, List.length_nil]; omega) ?_)))
        refine ev_cast (ih (i + 1) _ (by omega) (by simp only [List.length_append, List.length_cons, List.length_nil]; omega)) ?_
        rw [esc, if_pos (.inr h2)]
        simp only [List.append_assoc, List.cons_append, List.nil_append]
      · refine ev_neg h2 (ev_pos (by omega) ?_)
        refine ev_cast (ih (i + 1) _ (by omega) (by simp only [List.length_append, List.length_cons, List.length_nil]; omega)) ?_
        rw [esc, if_neg (fun h => h.elim h1 h2)]
        simp only [List.append_assoc, List.cons_append, List.nil_append]
theorem impl_QuoteWord_ev (s : ByteArray) (hs : s.size ≤ 1048576) : Ev (fun k => impl_QuoteWord.f k s) (qB s) := by
  unfold impl_QuoteWord.f qB
  refine ev_bind (impl_TextValid_ev s (by omega)) ?_
  unfold quoteW
  cases ht : textOk (bytesOf s) with
  | false => exact ev_neg (by decide) (Ev.now _)
  | true =>
    rw [if_pos rfl]
    refine ev_pos rfl (ev_bind1 (impl_AtomValid_eq s) ?_)
    cases ha : atomOk (bytesOf s) with
    | true =>
      rw [if_pos rfl, S_L]
      exact ev_pos rfl (Ev.now _)
    | false =>
      rw [if_neg (by decide)]
      have hz := (textOk_iff _).1 ht
      rw [L_len] at hz
      exact ev_neg (by decide) (impl_QuoteWord_l0 s (by omega) s.size 0 [34] (by omega) (by simp))
theorem spec_l1Quote_l0 (s : ByteArray) (hs : s.size ≤ 1048576) : ∀ (d i : Nat) (acc : List Int), i + d = s.size → acc.length ≤ 2 * i + 1 → Ev (fun k => spec_l1Quote.l0 k s (strOfNums acc) (i : Int)) (strOfNums (acc ++ (esc ((bytesOf s).drop i) ++ [34]))) := by
  intro d
  induction d with
  | zero =>
    intro i acc hi ha
    refine ev_succ ?_
    simp only [spec_l1Quote.l0]
    rw [L_drop_nil s i (by omega), esc, List.nil_append, ← S_append]
    exact ev_neg (by omega) (ev_pos (by rw [S_size]; omega) (Ev.now _))
  | succ d ih =>
    intro i acc hi ha
    refine ev_succ ?_
    simp only [spec_l1Quote.l0]
    rw [L_drop s i (by omega), wrap_succ i (by omega), Int.toNat_natCast, Int.toNat_natCast, extract_one s i (by omega)]
    refine ev_pos (by omega) (ev_pos (by omega) ?_)
    by_cases h1 : bt s i = 34
    · refine ev_pos h1 (ev_bind1 rfl (ev_pos (by rw [S_size, S_size]; simp; omega) (ev_pos (by omega) (ev_pos (by omega) (ev_pos (by rw [S_append, S_size, S_size]; simp; omega) ?_)))))
      rw [S_append, S_append]
      refine ev_cast (ih (i + 1) _ (by omega) (by simp only [List.length_append, List.length_cons, List.length_nil]; omega)) ?_
      rw [esc, if_pos (.inl h1)]
      simp only [List.append_assoc, List.cons_append, List.nil_append]
    · refine ev_neg h1 ?_
      by_cases h2 : bt s i = 92
      · refine ev_pos h2 (ev_bind1 rfl (ev_pos (by rw [S_size, S_size]; simp; omega) (ev_pos (by omega) (ev_pos (by omega) (ev_pos (by rw [S_append, S_size, S_size]; simp; omega) ?_)))))
        rw [S_append, S_append]
        refine ev_cast (ih (i + 1) _ (by omega) (by simp only [List.length_append, List.length_cons, List.length_nil]; omega)) ?_
        rw [esc, if_pos (.inr h2)]
        simp only [List.append_assoc, List.cons_append, List.nil_append]
      · refine ev_neg h2 (ev_pos (by omega) (ev_pos (by omega) (ev_pos (by rw [S_size, S_size]; simp; omega) ?_)))
        rw [S_append]
        refine ev_cast (ih (i + 1) _ (by omega) (by simp only [List.length_append, List.length_cons, List.length_nil]; omega)) ?_
        rw [esc, if_neg (fun h => h.elim h1 h2)]
        simp only [List.append_assoc, List.cons_append, List.nil_append]
theorem spec_QuoteWord_ev (s : ByteArray) (hs : s.size ≤ 1048576) : Ev (fun k => spec_QuoteWord.f k s) (qB s) := by
  unfold spec_QuoteWord.f qB
  refine ev_bind (spec_TextValid_ev s (by omega)) ?_
  unfold quoteW
  cases ht : textOk (bytesOf s) with
  | false => exact ev_neg (by decide) (Ev.now _)
  | true =>
    rw [if_pos rfl]
    refine ev_pos rfl (ev_bind (spec_AtomValid_ev s (by omega)) ?_)
    cases ha : atomOk (bytesOf s) with
    | true =>
      rw [if_pos rfl, S_L]
      exact ev_pos rfl (Ev.now _)
    | false =>
      rw [if_neg (by decide)]
      have hz := (textOk_iff _).1 ht
      rw [L_len] at hz
      refine ev_neg (by decide) (ev_bind (a := strOfNums ([34] ++ (esc ((bytesOf s).drop 0) ++ [34]))) ?_ (Ev.now _))
      exact spec_l1Quote_l0 s (by omega) s.size 0 [34] (by omega) (by simp)
/-! ### Unquoting -/
def uB (s : ByteArray) : ByteArray × Bool := (strOfNums (unquoteW (bytesOf s)).1, (unquoteW (bytesOf s)).2)
theorem lit34 : bytesOf (⟨#[34]⟩ : ByteArray) = [34] := rfl
theorem S_IsB {l : List Int} (h : IsB l) : bytesOf (strOfNums l) = l := L_S h
/-! ### Splitting -/
def sB (acc : List ByteArray) : Option (List (List Int)) → List ByteArray × Bool
  | none => ([], false)
  | some ws => (acc ++ ws.map strOfNums, true)
theorem sB_map (acc : List ByteArray) (w : List Int) (o : Option (List (List Int))) : sB acc (o.map (w :: ·)) = sB (acc ++ [strOfNums w]) o := by
  cases o with
  | none => rfl
  | some ws => simp [sB]
theorem drop_drop_atm (s : ByteArray) (j : Nat) : (bytesOf s).drop (j + (((bytesOf s).drop j).takeWhile isAtm).length) = ((bytesOf s).drop j).dropWhile isAtm := by
  rw [← List.drop_drop]
  generalize (bytesOf s).drop j = l
  have := List.takeWhile_append_dropWhile (p := isAtm) (l := l)
  conv => lhs; rw [← this, List.drop_append_of_le_length (by simp)]
  simp
theorem extract_atm (s : ByteArray) (i m : Nat) (h : m = (((bytesOf s).drop i).takeWhile isAtm).length) : s.extract i (i + m) = strOfNums (((bytesOf s).drop i).takeWhile isAtm) := by
  rw [extract_S, Nat.add_sub_cancel_left, h]
  generalize (bytesOf s).drop i = l
  have := List.takeWhile_append_dropWhile (p := isAtm) (l := l)
  conv => lhs; rw [← this, List.take_append_of_le_length (by simp)]
  simp
def spB (s : ByteArray) : List ByteArray × Bool := ((splitW (bytesOf s)).1.map strOfNums, (splitW (bytesOf s)).2)

end Go.Proofs.YtcnkakaipajloaaDoor.Q
