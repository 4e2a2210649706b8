/- What the printed functions on words come to; no condition. -/
import Derived.Test.YtcnkakaipajloaaK1
import Derived.Test.YtcnkakaipajloaaQ1
import Derived.Test.YtcnkakaipajloaaQ2
import Derived.Test.YtcnkakaipajloaaQ3
import Derived.Test.YtcnkakaipajloaaQ4
set_option linter.unusedVariables false
set_option linter.unusedSimpArgs false
namespace Go.Proofs.Ytcnkakaipajloaa.Q
open Go.RowKit Go.Proofs.YtcnkakaipajloaaV.PrintWords Go.Proofs.YtcnkakaipajloaaV.PrintLast Go.Proofs.YtcnkakaipajloaaV.PrintMore
/-! ## Words: what quoting, splitting and joining come to -/
def qB (s : ByteArray) : ByteArray := strOfNums (quoteW (bytesOf s))
theorem extract_one (s : ByteArray) (i : Nat) (h : i < s.size) : s.extract i (i + 1) = strOfNums [bt s i] := by
  rw [extract_S, L_drop s i h, show i + 1 - i = 1 by omega]
  rfl
theorem extract_from_size (s : ByteArray) (i : Nat) : (s.extract i s.size).size = s.size - i := by rw [← L_len, L_from, List.length_drop, L_len]
theorem quoteW_IsB {l : List Int} (h : IsB l) : IsB (quoteW l) := by
  intro x hx
  rcases quoteW_mem hx with rfl | rfl | hx
  · omega
  · omega
  · exact h x hx
theorem L_qB (s : ByteArray) : bytesOf (qB s) = quoteW (bytesOf s) := L_S (quoteW_IsB (L_IsB s))
theorem qB_size (s : ByteArray) : (qB s).size ≤ 402 := by
  rw [← L_len, L_qB]
  unfold quoteW
  split
  · rename_i ht
    rw [textOk_iff] at ht
    have := esc_length (bytesOf s)
    split
    · omega
    · simp only [List.length_cons, List.length_append, List.length_nil]; omega
  · simp
theorem impl_QuoteWord_l0 (s : ByteArray) (hs : s.size ≤ 1048576) : ∀ (d i : Nat) (acc : List Int), i + d = s.size → acc.length ≤ 2 * i + 1 → Ev (fun k => impl_QuoteWord.l0 k s acc (s.size : Int) (i : Int)) (strOfNums (acc ++ (esc ((bytesOf s).drop i) ++ [34]))) := by
  intro d
  induction d with
  | zero =>
    intro i acc hi ha
    refine ev_succ ?_
    simp only [impl_QuoteWord.l0]
    rw [L_drop_nil s i (by omega), esc, List.nil_append]
    exact ev_neg (by omega) (ev_pos (by omega) (Ev.now _))
  | succ d ih =>
    intro i acc hi ha
    refine ev_succ ?_
    simp only [impl_QuoteWord.l0]
    rw [L_drop s i (by omega), wrap_succ i (by omega)]
    refine ev_pos (by omega) (ev_pos (by omega) (ev_pos (by omega) ?_))
    by_cases h1 : bt s i = 34
    · refine ev_pos h1 (ev_pos (by omega) (ev_bind1 rfl (ev_pos (by simp only [List.length_append, List.length_cons, List.length_nil]; omega) ?_)))
      refine ev_cast (ih (i + 1) _ (by omega) (by simp only [List.length_append, List.length_cons, List.length_nil]; omega)) ?_
      rw [esc, if_pos (.inl h1)]
      simp only [List.append_assoc, List.cons_append, List.nil_append]
    · refine ev_neg h1 ?_
      by_cases h2 : bt s i = 92
      · refine ev_pos h2 (ev_pos (by omega) (ev_bind1 rfl (ev_pos (by simp only [List.length_append, List.length_cons, List.length_nil]; omega) ?_)))
        refine ev_cast (ih (i + 1) _ (by omega) (by simp only [List.length_append, List.length_cons, List.length_nil]; omega)) ?_
        rw [esc, if_pos (.inr h2)]
        simp only [List.append_assoc, List.cons_append, List.nil_append]
      · refine ev_neg h2 (ev_pos (by omega) ?_)
        refine ev_cast (ih (i + 1) _ (by omega) (by simp only [List.length_append, List.length_cons, List.length_nil]; omega)) ?_
        rw [esc, if_neg (fun h => h.elim h1 h2)]
        simp only [List.append_assoc, List.cons_append, List.nil_append]
theorem impl_QuoteWord_ev (s : ByteArray) (hs : s.size ≤ 1048576) : Ev (fun k => impl_QuoteWord.f k s) (qB s) := by
  unfold impl_QuoteWord.f qB
  refine ev_bind (impl_TextValid_ev s (by omega)) ?_
  unfold quoteW
  cases ht : textOk (bytesOf s) with
  | false => exact ev_neg (by decide) (Ev.now _)
  | true =>
    rw [if_pos rfl]
    refine ev_pos rfl (ev_bind1 (impl_AtomValid_eq s) ?_)
    cases ha : atomOk (bytesOf s) with
    | true =>
      rw [if_pos rfl, S_L]
      exact ev_pos rfl (Ev.now _)
    | false =>
      rw [if_neg (by decide)]
      have hz := (textOk_iff _).1 ht
      rw [L_len] at hz
      exact ev_neg (by decide) (impl_QuoteWord_l0 s (by omega) s.size 0 [34] (by omega) (by simp))
theorem spec_l1Quote_l0 (s : ByteArray) (hs : s.size ≤ 1048576) : ∀ (d i : Nat) (acc : List Int), i + d = s.size → acc.length ≤ 2 * i + 1 → Ev (fun k => spec_l1Quote.l0 k s (strOfNums acc) (i : Int)) (strOfNums (acc ++ (esc ((bytesOf s).drop i) ++ [34]))) := by
  intro d
  induction d with
  | zero =>
    intro i acc hi ha
    refine ev_succ ?_
    simp only [spec_l1Quote.l0]
    rw [L_drop_nil s i (by omega), esc, List.nil_append, ← S_append]
    exact ev_neg (by omega) (ev_pos (by rw [S_size]; omega) (Ev.now _))
  | succ d ih =>
    intro i acc hi ha
    refine ev_succ ?_
    simp only [spec_l1Quote.l0]
    rw [L_drop s i (by omega), wrap_succ i (by omega), Int.toNat_natCast, Int.toNat_natCast, extract_one s i (by omega)]
    refine ev_pos (by omega) (ev_pos (by omega) ?_)
    by_cases h1 : bt s i = 34
    · refine ev_pos h1 (ev_bind1 rfl (ev_pos (by rw [S_size, S_size]; simp; omega) (ev_pos (by omega) (ev_pos (by omega) (ev_pos (by rw [S_append, S_size, S_size]; simp; omega) ?_)))))
      rw [S_append, S_append]
      refine ev_cast (ih (i + 1) _ (by omega) (by simp only [List.length_append, List.length_cons, List.length_nil]; omega)) ?_
      rw [esc, if_pos (.inl h1)]
      simp only [List.append_assoc, List.cons_append, List.nil_append]
    · refine ev_neg h1 ?_
      by_cases h2 : bt s i = 92
      · refine ev_pos h2 (ev_bind1 rfl (ev_pos (by rw [S_size, S_size]; simp; omega) (ev_pos (by omega) (ev_pos (by omega) (ev_pos (by rw [S_append, S_size, S_size]; simp; omega) ?_)))))
        rw [S_append, S_append]
        refine ev_cast (ih (i + 1) _ (by omega) (by simp only [List.length_append, List.length_cons, List.length_nil]; omega)) ?_
        rw [esc, if_pos (.inr h2)]
        simp only [List.append_assoc, List.cons_append, List.nil_append]
      · refine ev_neg h2 (ev_pos (by omega) (ev_pos (by omega) (ev_pos (by rw [S_size, S_size]; simp; omega) ?_)))
        rw [S_append]
        refine ev_cast (ih (i + 1) _ (by omega) (by simp only [List.length_append, List.length_cons, List.length_nil]; omega)) ?_
        rw [esc, if_neg (fun h => h.elim h1 h2)]
        simp only [List.append_assoc, List.cons_append, List.nil_append]
theorem spec_QuoteWord_ev (s : ByteArray) (hs : s.size ≤ 1048576) : Ev (fun k => spec_QuoteWord.f k s) (qB s) := by
  unfold spec_QuoteWord.f qB
  refine ev_bind (spec_TextValid_ev s (by omega)) ?_
  unfold quoteW
  cases ht : textOk (bytesOf s) with
  | false => exact ev_neg (by decide) (Ev.now _)
  | true =>
    rw [if_pos rfl]
    refine ev_pos rfl (ev_bind (spec_AtomValid_ev s (by omega)) ?_)
    cases ha : atomOk (bytesOf s) with
    | true =>
      rw [if_pos rfl, S_L]
      exact ev_pos rfl (Ev.now _)
    | false =>
      rw [if_neg (by decide)]
      have hz := (textOk_iff _).1 ht
      rw [L_len] at hz
      refine ev_neg (by decide) (ev_bind (a := strOfNums ([34] ++ (esc ((bytesOf s).drop 0) ++ [34]))) ?_ (Ev.now _))
      exact spec_l1Quote_l0 s (by omega) s.size 0 [34] (by omega) (by simp)
/-! ### Reading what stands in quotes -/
def rq (n : Nat) (acc : List Int) : Option (List Int × List Int) → ByteArray × Int × Bool
  | none => ((⟨#[]⟩ : ByteArray), 0, false)
  | some (t, r) => (strOfNums (acc ++ t), (n : Int) - r.length, true)
theorem rq_map (n : Nat) (acc : List Int) (y : Int) (o : Option (List Int × List Int)) : rq n acc (o.map fun p => (y :: p.1, p.2)) = rq n (acc ++ [y]) o := by
  cases o with
  | none => rfl
  | some p => obtain ⟨t, r⟩ := p; simp [rq]
theorem impl_quoted_l0 (s : ByteArray) (hs : s.size ≤ 1048576) : ∀ (d i : Nat) (acc : List Int), s.size - i ≤ d → i ≤ s.size → acc.length ≤ i → Ev (fun k => impl_quoted.l0 k s acc (i : Int)) (rq s.size acc (readQ ((bytesOf s).drop i))) := by
  intro d
  induction d with
  | zero =>
    intro i acc hd hi ha
    refine ev_succ ?_
    simp only [impl_quoted.l0]
    rw [L_drop_nil s i (by omega)]
    exact ev_neg (by omega) (Ev.now _)
  | succ d ih =>
    intro i acc hd hi ha
    refine ev_succ ?_
    simp only [impl_quoted.l0]
    by_cases hlt : i < s.size
    · rw [L_drop s i hlt, wrap_succ i (by omega)]
      refine ev_pos (by omega) (ev_pos (by omega) ?_)
      by_cases h1 : bt s i = 34
      · rw [h1, readQ_end]
        refine ev_pos rfl (ev_of ?_)
        have : (((bytesOf s).drop (i + 1)).length : Int) = s.size - (i + 1) := by rw [List.length_drop, L_len]; omega
        simp only [rq, List.append_nil, this]
        congr 3
        omega
      · refine ev_neg h1 ?_
        by_cases h2 : bt s i = 92
        · refine ev_pos h2 ?_
          rw [h2]
          by_cases h3 : i + 1 = s.size
          · rw [L_drop_nil s (i + 1) (by omega), readQ_bs_nil]
            exact ev_pos (by omega) (Ev.now _)
          · rw [L_drop s (i + 1) (by omega), readQ_bs, rq_map, wrap_succ (i + 1) (by omega)]
            refine ev_neg (by omega) (ev_pos (by omega) (ev_pos (by omega) (ev_pos (by omega) ?_)))
            exact ih (i + 2) _ (by omega) (by omega) (by simp only [List.length_append, List.length_cons, List.length_nil]; omega)
        · rw [readQ_cons _ _ h1 h2, rq_map]
          refine ev_neg h2 (ev_pos (by omega) ?_)
          exact ih (i + 1) _ (by omega) (by omega) (by simp only [List.length_append, List.length_cons, List.length_nil]; omega)
    · rw [L_drop_nil s i (by omega)]
      exact ev_neg (by omega) (Ev.now _)
/-- impl's quoted, at a text that begins with a quote. -/
theorem impl_quoted_ev (s : ByteArray) (hs : s.size ≤ 1048576) (h0 : 0 < s.size) : Ev (fun k => impl_quoted.f k s) (rq s.size [] (readQ ((bytesOf s).drop 1))) :=
  impl_quoted_l0 s hs s.size 1 [] (by omega) (by omega) (by simp)
def rd1 (n : Nat) (acc : List Int) : Option (List Int × List Int) → ByteArray × Int
  | none => ((⟨#[]⟩ : ByteArray), -1)
  | some (t, r) => (strOfNums (acc ++ t), (n : Int) - r.length)
theorem rd1_map (n : Nat) (acc : List Int) (y : Int) (o : Option (List Int × List Int)) : rd1 n acc (o.map fun p => (y :: p.1, p.2)) = rd1 n (acc ++ [y]) o := by
  cases o with
  | none => rfl
  | some p => obtain ⟨t, r⟩ := p; simp [rd1]
theorem spec_l1Read_l0 (s : ByteArray) (hs : s.size ≤ 1048576) : ∀ (d i : Nat) (acc : List Int), s.size - i ≤ d → i ≤ s.size → acc.length ≤ i → Ev (fun k => spec_l1Read.l0 k s (strOfNums acc) (i : Int)) (rd1 s.size acc (readQ ((bytesOf s).drop i))) := by
  intro d
  induction d with
  | zero =>
    intro i acc hd hi ha
    refine ev_succ ?_
    simp only [spec_l1Read.l0]
    rw [L_drop_nil s i (by omega)]
    exact ev_neg (by omega) (Ev.now _)
  | succ d ih =>
    intro i acc hd hi ha
    refine ev_succ ?_
    simp only [spec_l1Read.l0]
    by_cases hlt : i < s.size
    · rw [L_drop s i hlt, wrap_succ i (by omega)]
      refine ev_pos (by omega) (ev_pos (by omega) ?_)
      by_cases h1 : bt s i = 34
      · rw [h1, readQ_end]
        refine ev_pos rfl (ev_of ?_)
        have : (((bytesOf s).drop (i + 1)).length : Int) = s.size - (i + 1) := by rw [List.length_drop, L_len]; omega
        simp only [rd1, List.append_nil, this]
        congr 2
        omega
      · refine ev_neg h1 ?_
        by_cases h2 : bt s i = 92
        · refine ev_pos h2 ?_
          rw [h2]
          by_cases h3 : i + 1 = s.size
          · rw [L_drop_nil s (i + 1) (by omega), readQ_bs_nil]
            exact ev_pos (by omega) (Ev.now _)
          · rw [L_drop s (i + 1) (by omega), readQ_bs, rd1_map, wrap_succ (i + 1) (by omega), Int.toNat_natCast, Int.toNat_natCast, extract_one s (i + 1) (by omega)]
            refine ev_neg (by omega) (ev_pos (by omega) (ev_pos (by omega) (ev_pos (by omega) (ev_pos (by rw [S_size, S_size]; simp; omega) ?_))))
            rw [S_append]
            exact ih (i + 2) _ (by omega) (by omega) (by simp only [List.length_append, List.length_cons, List.length_nil]; omega)
        · rw [readQ_cons _ _ h1 h2, rd1_map, Int.toNat_natCast, Int.toNat_natCast, extract_one s i (by omega)]
          refine ev_neg h2 (ev_pos (by omega) (ev_pos (by omega) (ev_pos (by rw [S_size, S_size]; simp; omega) ?_)))
          rw [S_append]
          exact ih (i + 1) _ (by omega) (by omega) (by simp only [List.length_append, List.length_cons, List.length_nil]; omega)
    · rw [L_drop_nil s i (by omega)]
      exact ev_neg (by omega) (Ev.now _)
theorem spec_l1Read_ev (s : ByteArray) (hs : s.size ≤ 1048576) (i : Nat) (hi : i < s.size) : Ev (fun k => spec_l1Read.f k s (i : Int)) (rd1 s.size [] (readQ ((bytesOf s).drop (i + 1)))) := by
  unfold spec_l1Read.f
  rw [wrap_succ i (by omega)]
  exact spec_l1Read_l0 s hs s.size (i + 1) [] (by omega) (by omega) (by simp)
/-! ### Unquoting -/
def uB (s : ByteArray) : ByteArray × Bool := (strOfNums (unquoteW (bytesOf s)).1, (unquoteW (bytesOf s)).2)
theorem lit34 : bytesOf (⟨#[34]⟩ : ByteArray) = [34] := rfl
theorem S_IsB {l : List Int} (h : IsB l) : bytesOf (strOfNums l) = l := L_S h
/-! ### Splitting -/
def sB (acc : List ByteArray) : Option (List (List Int)) → List ByteArray × Bool
  | none => ([], false)
  | some ws => (acc ++ ws.map strOfNums, true)
theorem sB_map (acc : List ByteArray) (w : List Int) (o : Option (List (List Int))) : sB acc (o.map (w :: ·)) = sB (acc ++ [strOfNums w]) o := by
  cases o with
  | none => rfl
  | some ws => simp [sB]
theorem drop_drop_atm (s : ByteArray) (j : Nat) : (bytesOf s).drop (j + (((bytesOf s).drop j).takeWhile isAtm).length) = ((bytesOf s).drop j).dropWhile isAtm := by
  rw [← List.drop_drop]
  generalize (bytesOf s).drop j = l
  have := List.takeWhile_append_dropWhile (p := isAtm) (l := l)
  conv => lhs; rw [← this, List.drop_append_of_le_length (by simp)]
  simp
theorem extract_atm (s : ByteArray) (i m : Nat) (h : m = (((bytesOf s).drop i).takeWhile isAtm).length) : s.extract i (i + m) = strOfNums (((bytesOf s).drop i).takeWhile isAtm) := by
  rw [extract_S, Nat.add_sub_cancel_left, h]
  generalize (bytesOf s).drop i = l
  have := List.takeWhile_append_dropWhile (p := isAtm) (l := l)
  conv => lhs; rw [← this, List.take_append_of_le_length (by simp)]
  simp
theorem impl_Split_l1 (s : ByteArray) (hs : s.size ≤ 1048576) (acc : List ByteArray) (i : Nat) (hacc : acc.length ≤ i) : ∀ (d j : Nat), s.size - j ≤ d → i ≤ j → j ≤ s.size → (i < j + (((bytesOf s).drop j).takeWhile isAtm).length) → ∀ r,
    Ev (fun k => impl_SplitWords.l0 k s (acc ++ [s.extract i (j + (((bytesOf s).drop j).takeWhile isAtm).length)]) ((j + (((bytesOf s).drop j).takeWhile isAtm).length : Nat) : Int) false) r → Ev (fun k => impl_SplitWords.l1 k s acc (i : Int) (j : Int)) r := by
  intro d
  induction d with
  | zero =>
    intro j hd hij hj hlt r h
    rw [L_drop_nil s j (by omega), List.takeWhile_nil, List.length_nil, Nat.add_zero] at h hlt
    refine ev_succ ?_
    simp only [impl_SplitWords.l1]
    rw [Int.toNat_natCast, Int.toNat_natCast]
    exact ev_neg (by omega) (ev_neg (by omega) (ev_pos (by omega) (ev_pos (by omega) (ev_pos (by omega) (ev_pos (by omega) h)))))
  | succ d ih =>
    intro j hd hij hj hlt r h
    refine ev_succ ?_
    simp only [impl_SplitWords.l1]
    by_cases hz : j < s.size
    · refine ev_pos (by omega) (ev_pos (by omega) (ev_bind1 (impl_isAtomByte_eq _) ?_))
      rw [L_drop s j hz] at h hlt
      cases hA : isAtm (bt s j) with
      | true =>
        rw [List.takeWhile_cons_of_pos hA, List.length_cons, show j + ((((bytesOf s).drop (j + 1)).takeWhile isAtm).length + 1) = (j + 1) + (((bytesOf s).drop (j + 1)).takeWhile isAtm).length by omega] at h hlt
        rw [wrap_succ j (by omega)]
        exact ev_pos rfl (ih (j + 1) (by omega) (by omega) (by omega) hlt r h)
      | false =>
        rw [List.takeWhile_cons_of_neg (by rw [hA]; decide), List.length_nil, Nat.add_zero] at h hlt
        rw [Int.toNat_natCast, Int.toNat_natCast]
        exact ev_neg (by decide) (ev_neg (by omega) (ev_pos (by omega) (ev_pos (by omega) (ev_pos (by omega) (ev_pos (by omega) h)))))
    · rw [L_drop_nil s j (by omega), List.takeWhile_nil, List.length_nil, Nat.add_zero] at h hlt
      rw [Int.toNat_natCast, Int.toNat_natCast]
      exact ev_neg (by omega) (ev_neg (by omega) (ev_pos (by omega) (ev_pos (by omega) (ev_pos (by omega) (ev_pos (by omega) h)))))
theorem impl_Split_l0 (s : ByteArray) (hs : s.size ≤ 1048576) : ∀ (d i : Nat) (acc : List ByteArray) (ap : Bool), s.size - i ≤ d → i ≤ s.size → acc.length ≤ i → Ev (fun k => impl_SplitWords.l0 k s acc (i : Int) ap) (sB acc (words ap ((bytesOf s).drop i))) := by
  intro d
  induction d with
  | zero =>
    intro i acc ap hd hi ha
    refine ev_succ ?_
    simp only [impl_SplitWords.l0]
    rw [L_drop_nil s i (by omega), words_nil]
    exact ev_neg (by omega) (ev_of (by simp [sB]))
  | succ d ih =>
    intro i acc ap hd hi ha
    by_cases hlt : i < s.size
    · refine ev_succ ?_
      simp only [impl_SplitWords.l0]
      have hdr := L_drop s i hlt
      rw [hdr]
      refine ev_pos (by omega) (ev_pos (by omega) ?_)
      by_cases h1 : bt s i = 32
      · rw [h1, words_sp, wrap_succ i (by omega)]
        exact ev_pos rfl (ih (i + 1) acc true (by omega) (by omega) (by omega))
      · refine ev_neg h1 ?_
        cases ap with
        | false =>
          rw [words_glued _ _ h1]
          exact ev_neg (by decide) (Ev.now _)
        | true =>
          refine ev_pos rfl ?_
          by_cases h2 : bt s i = 34
          · refine ev_pos h2 (ev_pos (by omega) ?_)
            rw [Int.toNat_natCast, h2]
            have hz := extract_from_size s i
            have hq := impl_quoted_ev (s.extract i s.size) (by omega) (by omega)
            rw [L_from, List.drop_drop, hz] at hq
            refine ev_bind hq ?_
            cases hR : readQ ((bytesOf s).drop (i + 1)) with
            | none =>
              rw [words_q_none _ hR]
              exact ev_neg (by simp [rq]) (Ev.now _)
            | some p =>
              obtain ⟨t, r⟩ := p
              rw [words_q _ t r hR, sB_map]
              obtain ⟨pre, hpre, hl, hm⟩ := readQ_some hR
              have hlen := congrArg List.length hpre
              rw [List.length_drop, L_len, List.length_append, List.length_cons] at hlen
              have hr : r = (bytesOf s).drop (s.size - r.length) := by
                have h3 : (bytesOf s).drop (i + 1 + (pre.length + 1)) = r := by
                  rw [← List.drop_drop, hpre, ← List.drop_drop, List.drop_left]
                  rfl
                have hn : i + 1 + (pre.length + 1) = s.size - r.length := by omega
                rw [hn] at h3
                exact h3.symm
              simp only [rq, List.nil_append]
              have e : wrap64 ((i : Int) + (((s.size - i : Nat) : Int) - (r.length : Int))) = ((s.size - r.length : Nat) : Int) := by rw [wrap_id (by omega) (by omega)]; omega
              rw [e]
              refine ev_pos trivial (ev_pos (by omega) ?_)
              refine ev_cast (ih (s.size - r.length) (acc ++ [strOfNums t]) false (by omega) (by omega) (by simp only [List.length_append, List.length_cons, List.length_nil]; omega)) ?_
              rw [← hr]
          · refine ev_neg h2 ?_
            cases hA : isAtm (bt s i) with
            | true =>
              rw [words_atm _ _ hA, sB_map]
              have hT : ((bytesOf s).drop i).takeWhile isAtm = bt s i :: ((bytesOf s).drop (i + 1)).takeWhile isAtm := by rw [hdr, List.takeWhile_cons_of_pos hA]
              have hTl : 1 ≤ (((bytesOf s).drop i).takeWhile isAtm).length := by rw [hT]; simp
              have hle : (((bytesOf s).drop i).takeWhile isAtm).length ≤ s.size - i := by
                have := (List.takeWhile_prefix isAtm (l := (bytesOf s).drop i)).length_le
                rw [List.length_drop, L_len] at this
                exact this
              refine impl_Split_l1 s hs acc i ha s.size i (by omega) (by omega) (by omega) (by omega) _ ?_
              rw [extract_atm s i _ rfl]
              refine ev_cast (ih (i + (((bytesOf s).drop i).takeWhile isAtm).length) _ false (by omega) (by omega) (by simp only [List.length_append, List.length_cons, List.length_nil]; omega)) ?_
              rw [drop_drop_atm, hT, hdr, List.dropWhile_cons_of_pos hA]
            | false =>
              rw [words_bad _ _ h1 h2 hA]
              refine ev_succ ?_
              simp only [impl_SplitWords.l1]
              refine ev_pos (by omega) (ev_pos (by omega) (ev_bind1 (impl_isAtomByte_eq _) ?_))
              rw [hA]
              exact ev_neg (by decide) (ev_pos trivial (Ev.now _))
    · refine ev_succ ?_
      simp only [impl_SplitWords.l0]
      rw [L_drop_nil s i (by omega), words_nil]
      exact ev_neg (by omega) (ev_of (by simp [sB]))
def spB (s : ByteArray) : List ByteArray × Bool := ((splitW (bytesOf s)).1.map strOfNums, (splitW (bytesOf s)).2)
theorem impl_SplitWords_ev (s : ByteArray) (hs : s.size ≤ 1048576) : Ev (fun k => impl_SplitWords.f k s) (spB s) := by
  unfold impl_SplitWords.f spB splitW
  refine ev_bind (impl_TextValid_ev s (by omega)) ?_
  cases ht : textOk (bytesOf s) with
  | false => exact ev_neg (by decide) (Ev.now _)
  | true =>
    have hz := (textOk_iff _).1 ht
    rw [L_len] at hz
    rw [if_pos rfl]
    refine ev_pos rfl (ev_cast (impl_Split_l0 s (by omega) s.size 0 [] true (by omega) (by omega) (by simp)) ?_)
    rw [List.drop_zero]
    cases words true (bytesOf s) <;> simp [sB]

end Go.Proofs.Ytcnkakaipajloaa.Q
