/- What the printed functions that split and join words come to; no condition. -/
import Derived.Test.YtcnkakaipajloaaK1w
import Derived.Lib.Join
import Derived.Test.YtcnkakaipajloaaQ1
import Derived.Test.YtcnkakaipajloaaQ2
import Derived.Test.YtcnkakaipajloaaQ4
set_option linter.unusedVariables false
set_option linter.unusedSimpArgs false
namespace Go.Proofs.Ytcnkakaipajloaa.Q
open Go.RowKit Go.Proofs.YtcnkakaipajloaaV.PrintWords Go.Proofs.YtcnkakaipajloaaV.PrintLast Go.Proofs.YtcnkakaipajloaaV.PrintMore
/-! ## Words: the reference's splitting, and joining on both sides -/
theorem spec_Split_l1 (s : ByteArray) (hs : s.size ≤ 1048576) (acc : List ByteArray) (i : Nat) (hacc : acc.length ≤ i) (r : List ByteArray × Bool) : ∀ (d j e : Nat), s.size - j ≤ d → i ≤ j → j ≤ s.size → e = j + (((bytesOf s).drop j).takeWhile isAtm).length → i < e →
    (e < s.size → bt s e ≠ 32 → r = ([], false)) → (e = s.size ∨ bt s e = 32 → Ev (fun k => spec_l1Words.l0 k s (acc ++ [s.extract i e]) (e : Int)) r) → Ev (fun k => spec_l1Words.l1 k s acc (j : Int) (i : Int)) r := by
  intro d
  induction d with
  | zero =>
    intro j e hd hij hj he hlt hb hg
    rw [L_drop_nil s j (by omega), List.takeWhile_nil, List.length_nil, Nat.add_zero] at he
    subst he
    refine ev_succ ?_
    simp only [spec_l1Words.l1]
    rw [Int.toNat_natCast, Int.toNat_natCast]
    exact ev_neg (by omega) (ev_pos (by omega) (ev_pos (by omega) (ev_pos (by omega) (ev_neg (by omega) (ev_pos (by omega) (hg (.inl (by omega))))))))
  | succ d ih =>
    intro j e hd hij hj he hlt hb hg
    refine ev_succ ?_
    simp only [spec_l1Words.l1]
    by_cases hz : j < s.size
    · refine ev_pos (by omega) (ev_pos (by omega) (ev_bind (spec_l1Atom_ev _) ?_))
      rw [L_drop s j hz] at he
      cases hA : isAtm (bt s j) with
      | true =>
        rw [List.takeWhile_cons_of_pos hA, List.length_cons] at he
        rw [wrap_succ j (by omega)]
        exact ev_pos rfl (ih (j + 1) e (by omega) (by omega) (by omega) (by omega) hlt hb hg)
      | false =>
        rw [List.takeWhile_cons_of_neg (by rw [hA]; decide), List.length_nil, Nat.add_zero] at he
        subst he
        rw [Int.toNat_natCast, Int.toNat_natCast]
        refine ev_neg (by decide) (ev_pos (by omega) (ev_pos (by omega) (ev_pos (by omega) (ev_neg (by omega) ?_))))
        by_cases h32 : bt s e = 32
        · exact ev_pos h32 (ev_pos (by omega) (hg (.inr h32)))
        · rw [hb hz h32]
          exact ev_neg h32 (Ev.now _)
    · rw [L_drop_nil s j (by omega), List.takeWhile_nil, List.length_nil, Nat.add_zero] at he
      subst he
      rw [Int.toNat_natCast, Int.toNat_natCast]
      exact ev_neg (by omega) (ev_pos (by omega) (ev_pos (by omega) (ev_pos (by omega) (ev_neg (by omega) (ev_pos (by omega) (hg (.inl (by omega))))))))
theorem spec_Split_l0 (s : ByteArray) (hs : s.size ≤ 1048576) : ∀ (d i : Nat) (acc : List ByteArray), s.size - i ≤ d → i ≤ s.size → acc.length ≤ i → Ev (fun k => spec_l1Words.l0 k s acc (i : Int)) (sB acc (words true ((bytesOf s).drop i))) := by
  intro d
  induction d with
  | zero =>
    intro i acc hd hi ha
    refine ev_succ ?_
    simp only [spec_l1Words.l0]
    rw [L_drop_nil s i (by omega), words_nil]
    exact ev_neg (by omega) (ev_of (by simp [sB]))
  | succ d ih =>
    intro i acc hd hi ha
    by_cases hlt : i < s.size
    · refine ev_succ ?_
      simp only [spec_l1Words.l0]
      have hdr := L_drop s i hlt
      rw [hdr]
      refine ev_pos (by omega) (ev_pos (by omega) ?_)
      by_cases h1 : bt s i = 32
      · rw [h1, words_sp, wrap_succ i (by omega)]
        exact ev_pos rfl (ih (i + 1) acc (by omega) (by omega) (by omega))
      · refine ev_neg h1 ?_
        by_cases h2 : bt s i = 34
        · refine ev_pos h2 ?_
          rw [h2]
          refine ev_bind (spec_l1Read_ev s hs i hlt) ?_
          cases hR : readQ ((bytesOf s).drop (i + 1)) with
          | none =>
            rw [words_q_none _ hR]
            exact ev_pos (by simp [rd1]) (Ev.now _)
          | some p =>
            obtain ⟨t, r⟩ := p
            rw [words_q _ t r hR, sB_map]
            obtain ⟨pre, hpre, hl, hm⟩ := readQ_some hR
            have hlen := congrArg List.length hpre
            rw [List.length_drop, L_len, List.length_append, List.length_cons] at hlen
            have hr : (bytesOf s).drop (s.size - r.length) = r := by
              have h3 : (bytesOf s).drop (i + 1 + (pre.length + 1)) = r := by
                rw [← List.drop_drop, hpre, ← List.drop_drop, List.drop_left]
                rfl
              rw [← show i + 1 + (pre.length + 1) = s.size - r.length by omega]
              exact h3
            obtain ⟨n, hn⟩ : ∃ n, n = s.size - r.length := ⟨_, rfl⟩
            have e : (s.size : Int) - (r.length : Int) = (n : Int) := by omega
            simp only [rd1, List.nil_append, e]
            rw [← hn] at hr
            refine ev_neg (by omega) (ev_neg (by omega) ?_)
            have hih := ih n (acc ++ [strOfNums t]) (by omega) (by omega) (by simp only [List.length_append, List.length_cons, List.length_nil]; omega)
            rw [hr] at hih
            by_cases hns : n < s.size
            · refine ev_pos (by omega) (ev_pos (by omega) ?_)
              have hd2 := L_drop s n hns
              rw [hr] at hd2
              by_cases h32 : bt s n = 32
              · refine ev_pos h32 (ev_pos (by omega) ?_)
                rw [words_end r (.inr ⟨_, by rw [hd2, h32]⟩)]
                exact hih
              · rw [hd2, words_glued _ _ h32]
                exact ev_neg h32 (Ev.now _)
            · refine ev_neg (by omega) (ev_pos (by omega) ?_)
              have : r = [] := by rw [← hr]; exact L_drop_nil s n (by omega)
              rw [words_end r (.inl this)]
              exact hih
        · refine ev_neg h2 ?_
          cases hA : isAtm (bt s i) with
          | true =>
            rw [words_atm _ _ hA, sB_map]
            have hT : ((bytesOf s).drop i).takeWhile isAtm = bt s i :: ((bytesOf s).drop (i + 1)).takeWhile isAtm := by rw [hdr, List.takeWhile_cons_of_pos hA]
            have hD : ((bytesOf s).drop (i + 1)).dropWhile isAtm = (bytesOf s).drop (i + (((bytesOf s).drop i).takeWhile isAtm).length) := by rw [drop_drop_atm, hdr, List.dropWhile_cons_of_pos hA]
            have hle : (((bytesOf s).drop i).takeWhile isAtm).length ≤ s.size - i := by
              have := (List.takeWhile_prefix isAtm (l := (bytesOf s).drop i)).length_le
              rw [List.length_drop, L_len] at this
              exact this
            have hTl : 1 ≤ (((bytesOf s).drop i).takeWhile isAtm).length := by rw [hT]; simp
            rw [hD, ← hT, ← extract_atm s i _ rfl]
            obtain ⟨e, he⟩ : ∃ e, e = i + (((bytesOf s).drop i).takeWhile isAtm).length := ⟨_, rfl⟩
            rw [← he]
            refine spec_Split_l1 s hs acc i ha _ s.size i e (by omega) (by omega) (by omega) he (by omega) ?_ ?_
            · intro h3 h4
              rw [L_drop s e h3, words_glued _ _ h4]
              rfl
            · intro h3
              have hih := ih e (acc ++ [s.extract i e]) (by omega) (by omega) (by simp only [List.length_append, List.length_cons, List.length_nil]; omega)
              rw [words_end _ ?_]
              · exact hih
              · rcases h3 with h3 | h3
                · exact .inl (L_drop_nil s e (by omega))
                · by_cases h5 : e < s.size
                  · exact .inr ⟨_, by rw [L_drop s e h5, h3]⟩
                  · exact .inl (L_drop_nil s e (by omega))
          | false =>
            rw [words_bad _ _ h1 h2 hA]
            refine ev_succ ?_
            simp only [spec_l1Words.l1]
            refine ev_pos (by omega) (ev_pos (by omega) (ev_bind (spec_l1Atom_ev _) ?_))
            rw [hA]
            exact ev_neg (by decide) (ev_pos (by omega) (ev_pos (Int.le_refl _) (ev_pos (by omega) (ev_pos trivial (Ev.now _)))))
    · refine ev_succ ?_
      simp only [spec_l1Words.l0]
      rw [L_drop_nil s i (by omega), words_nil]
      exact ev_neg (by omega) (ev_of (by simp [sB]))
theorem spec_l1Words_ev (s : ByteArray) (hs : s.size ≤ 1048576) : Ev (fun k => spec_l1Words.f k s) (sB [] (words true (bytesOf s))) := by
  have h := spec_Split_l0 s hs s.size 0 [] (by omega) (by omega) (by simp)
  rw [List.drop_zero] at h
  exact h
theorem spec_SplitWords_ev (s : ByteArray) (hs : s.size ≤ 1048576) : Ev (fun k => spec_SplitWords.f k s) (spB s) := by
  unfold spec_SplitWords.f spB splitW
  refine ev_bind (spec_TextValid_ev s (by omega)) ?_
  cases ht : textOk (bytesOf s) with
  | false => exact ev_neg (by decide) (Ev.now _)
  | true =>
    have hz := (textOk_iff _).1 ht
    rw [L_len] at hz
    rw [if_pos rfl]
    refine ev_pos rfl (ev_bind (spec_l1Words_ev s (by omega)) (ev_of ?_))
    cases words true (bytesOf s) <;> simp [sB]
/-! ### Joining -/
def tailS (sep : List Int) : List (List Int) → List Int
  | [] => []
  | x :: r => sep ++ (x ++ tailS sep r)
def joinS (sep : List Int) : List (List Int) → List Int
  | [] => []
  | x :: r => x ++ tailS sep r
theorem tailS_sp (l : List (List Int)) : tailS [32] l = tailJ l := by
  induction l with
  | nil => rfl
  | cons x r ih => simp only [tailS, tailJ, ih, List.cons_append, List.nil_append]
theorem joinS_sp (l : List (List Int)) : joinS [32] l = joinL l := by
  cases l with
  | nil => rfl
  | cons x r => simp only [joinS, joinL, tailS_sp]
theorem tailS_len (sep : List Int) (m : Nat) (l : List (List Int)) (h : ∀ x ∈ l, x.length ≤ m) : (tailS sep l).length ≤ l.length * (sep.length + m) := by
  induction l with
  | nil => simp [tailS]
  | cons x r ih =>
    have h1 := h x (by simp)
    have h2 := ih fun y hy => h y (List.mem_cons_of_mem _ hy)
    simp only [tailS, List.length_append, List.length_cons, Nat.add_mul, Nat.one_mul]
    omega
theorem joinS_len (sep : List Int) (m : Nat) (l : List (List Int)) (h : ∀ x ∈ l, x.length ≤ m) : (joinS sep l).length ≤ l.length * (sep.length + m) := by
  cases l with
  | nil => simp [joinS]
  | cons x r =>
    have h1 := h x (by simp)
    have h2 := tailS_len sep m r fun y hy => h y (List.mem_cons_of_mem _ hy)
    simp only [joinS, List.length_append, List.length_cons, Nat.add_mul, Nat.one_mul]
    omega
def nl (l : List UInt8) : List Int := l.map fun b => (b.toNat : Int)
theorem nl_tail (sep : List UInt8) (l : List (List UInt8)) : nl (Lib.joinTail sep l) = tailS (nl sep) (l.map nl) := by
  induction l with
  | nil => rfl
  | cons x r ih =>
    rw [List.map_cons, tailS, ← ih]
    simp only [Lib.joinTail, List.map_cons, List.flatten_cons, nl, List.map_append, List.append_assoc]
theorem nl_join (sep : List UInt8) (l : List (List UInt8)) : nl (Lib.join l sep) = joinS (nl sep) (l.map nl) := by
  cases l with
  | nil => rfl
  | cons x r =>
    rw [Lib.join_cons, List.map_cons, joinS, ← nl_tail]
    simp only [nl, List.map_append]
theorem join_S (l : List ByteArray) (sep : ByteArray) : (⟨(Lib.join (l.map (·.data.toList)) sep.data.toList).toArray⟩ : ByteArray) = strOfNums (joinS (bytesOf sep) (l.map bytesOf)) := by
  rw [← S_L (⟨(Lib.join (l.map (·.data.toList)) sep.data.toList).toArray⟩ : ByteArray)]
  congr 1
  have := nl_join sep.data.toList (l.map (·.data.toList))
  rw [List.map_map] at this
  exact this
theorem join_len (l : List ByteArray) (sep : ByteArray) : (Lib.join (l.map (·.data.toList)) sep.data.toList).length = (joinS (bytesOf sep) (l.map bytesOf)).length := by
  have := nl_join sep.data.toList (l.map (·.data.toList))
  rw [List.map_map] at this
  have h2 := congrArg List.length this
  rw [nl, List.length_map] at h2
  exact h2
theorem strings_Join_eq (l : List ByteArray) (sep : ByteArray) (m : Nat) (hl : l.length ≤ 1048576) (hm : ∀ x ∈ l, x.size ≤ m) (hm2 : sep.size + m ≤ 1000000) : strings_Join.f l sep = some (strOfNums (joinS (bytesOf sep) (l.map bytesOf))) := by
  have h1 := joinS_len (bytesOf sep) m (l.map bytesOf) (fun x hx => by obtain ⟨y, hy, rfl⟩ := List.mem_map.1 hx; rw [L_len]; exact hm y hy)
  rw [List.length_map, L_len] at h1
  have h2 : l.length * (sep.size + m) ≤ 1048576 * 1000000 := Nat.mul_le_mul hl hm2
  unfold strings_Join.f
  rw [if_pos ⟨by omega, by rw [join_len]; omega⟩, join_S]
theorem lit32 : bytesOf (⟨#[32]⟩ : ByteArray) = [32] := rfl
theorem impl_JoinWords_l0 (l : List ByteArray) (hl : l.length ≤ 1048576) (hx : ∀ x ∈ l, x.size ≤ 1048576) : ∀ (d i : Nat), i + d = l.length → Ev (fun k => impl_JoinWords.l0 k ((l.take i).map qB) l (l.length : Int) (i : Int)) (strOfNums (if (joinL (l.map fun x => quoteW (bytesOf x))).length ≤ 200 then joinL (l.map fun x => quoteW (bytesOf x)) else [])) := by
  intro d
  induction d with
  | zero =>
    intro i hi
    refine ev_succ ?_
    simp only [impl_JoinWords.l0]
    rw [List.take_of_length_le (by omega)]
    have hj := strings_Join_eq (l.map qB) (⟨#[32]⟩ : ByteArray) 402 (by rw [List.length_map]; exact hl) (fun x hx => by obtain ⟨y, _, rfl⟩ := List.mem_map.1 hx; exact qB_size y) (by rw [size_lit1]; omega)
    rw [lit32, joinS_sp, List.map_map, show (bytesOf ∘ qB) = (fun x => quoteW (bytesOf x)) from funext L_qB] at hj
    refine ev_neg (by omega) (ev_bind1 hj ?_)
    rw [S_size]
    by_cases h : (joinL (l.map fun x => quoteW (bytesOf x))).length ≤ 200
    · rw [if_pos h]
      exact ev_neg (by omega) (Ev.now _)
    · rw [if_neg h]
      exact ev_pos (by omega) (Ev.now _)
  | succ d ih =>
    intro i hi
    have hlt : i < l.length := by omega
    have e1 : rdOf ByteArray.empty l (i : Int) = l[i] := by
      rw [rdOf, Int.toNat_natCast, List.getD_eq_getElem?_getD, List.getElem?_eq_getElem hlt]
      rfl
    refine ev_succ ?_
    simp only [impl_JoinWords.l0]
    rw [e1, wrap_succ i (by omega)]
    refine ev_pos (by omega) (ev_pos (by omega) (ev_pos (by omega) (ev_bind (impl_QuoteWord_ev l[i] (hx _ (List.getElem_mem hlt))) (ev_pos (by rw [List.length_map, List.length_take]; omega) ?_))))
    refine ev_cast ?_ rfl
    have := ih (i + 1) (by omega)
    rw [List.take_succ_eq_append_getElem hlt, List.map_append, List.map_cons, List.map_nil] at this
    exact this
theorem impl_JoinWords_ev (l : List ByteArray) (hl : l.length ≤ 1048576) (hx : ∀ x ∈ l, x.size ≤ 1048576) : Ev (fun k => impl_JoinWords.f k l) (strOfNums (joinW (l.map bytesOf))) := by
  unfold impl_JoinWords.f ContainsFunc__impl_JoinWords_1.f
  have ha : Ev (fun k => anyO (fun x => impl_JoinWords_1.f k x) l) (l.any fun x => !textOk (bytesOf x)) := by
    refine ev_anyO l fun x hm => ?_
    have := hx x hm
    unfold impl_JoinWords_1.f
    exact ev_bind (impl_TextValid_ev x (by omega)) (Ev.now _)
  refine ev_bind ha ?_
  have hall : (l.map bytesOf).all textOk = !(l.any fun x => !textOk (bytesOf x)) := by
    rw [List.all_map, List.not_any_eq_all_not]
    simp [Function.comp_def]
  unfold joinW
  rw [hall, List.map_map]
  cases h : (l.any fun x => !textOk (bytesOf x)) with
  | true =>
    rw [if_neg (by simp)]
    exact ev_pos rfl (Ev.now _)
  | false =>
    refine ev_neg (by decide) ?_
    have := impl_JoinWords_l0 l hl hx l.length 0 (by omega)
    simp only [Bool.not_false, true_and]
    exact this
theorem spec_JoinWords_l0 (l : List ByteArray) (hl : l.length ≤ 1048576) (hx : ∀ x ∈ l, x.size ≤ 1048576) : ∀ (d i : Nat) (acc : List Int), i + d = l.length → i ≤ acc.length → acc.length ≤ 200 → (i = 0 → acc = []) → ∀ T, T = (if i = 0 then joinL ((l.drop i).map fun x => quoteW (bytesOf x)) else tailJ ((l.drop i).map fun x => quoteW (bytesOf x))) →
    Ev (fun k => spec_JoinWords.l0 k l (strOfNums acc) (i : Int)) (strOfNums (if ((l.drop i).all fun x => textOk (bytesOf x)) = true ∧ (acc ++ T).length ≤ 200 then acc ++ T else [])) := by
  intro d
  induction d with
  | zero =>
    intro i acc hi h1 h2 h0 T hT
    refine ev_succ ?_
    simp only [spec_JoinWords.l0]
    refine ev_neg (by omega) (ev_succ ?_)
    simp only [spec_JoinWords.j1, Bool.false_eq_true, if_false]
    rw [List.drop_eq_nil_of_le (by omega)] at hT ⊢
    have : T = [] := by rw [hT]; simp [joinL, tailJ]
    rw [this, List.append_nil, if_pos ⟨rfl, h2⟩]
    exact Ev.now _
  | succ d ih =>
    intro i acc hi h1 h2 h0 T hT
    have hlt : i < l.length := by omega
    have e1 : rdOf ByteArray.empty l (i : Int) = l[i] := by
      rw [rdOf, Int.toNat_natCast, List.getD_eq_getElem?_getD, List.getElem?_eq_getElem hlt]
      rfl
    have hxi := hx l[i] (List.getElem_mem hlt)
    have hq : strOfNums (quoteW (bytesOf l[i])) = qB l[i] := rfl
    have hql : (quoteW (bytesOf l[i])).length ≤ 402 := by rw [← L_qB, L_len]; exact qB_size _
    refine ev_succ ?_
    simp only [spec_JoinWords.l0]
    refine ev_pos (by omega) (ev_succ ?_)
    simp only [show decide ((i : Int) ≤ 200) = true from decide_eq_true (by omega), spec_JoinWords.j1, if_true]
    rw [e1, wrap_succ i (by omega)]
    refine ev_pos (by omega) (ev_pos (by omega) (ev_bind (spec_TextValid_ev l[i] (by omega)) ?_))
    rw [List.drop_eq_getElem_cons hlt, List.map_cons] at hT
    rw [List.drop_eq_getElem_cons hlt, List.all_cons]
    cases ht : textOk (bytesOf l[i]) with
    | false =>
      rw [if_neg (by simp)]
      exact ev_neg (by decide) (Ev.now _)
    | true =>
      rw [Bool.true_and]
      refine ev_pos rfl ?_
      have hne : 1 ≤ (quoteW (bytesOf l[i])).length := by
        have := quoteW_ne_nil ht
        cases hc : quoteW (bytesOf l[i]) with
        | nil => exact absurd hc this
        | cons a b => simp
      have hT' : ∀ acc', acc' ++ tailJ ((l.drop (i + 1)).map fun x => quoteW (bytesOf x)) = acc' ++ (if i + 1 = 0 then joinL ((l.drop (i + 1)).map fun x => quoteW (bytesOf x)) else tailJ ((l.drop (i + 1)).map fun x => quoteW (bytesOf x))) := fun acc' => by rw [if_neg (by omega)]
      by_cases hi0 : i = 0
      · have hacc := h0 hi0
        rw [if_pos hi0, joinL] at hT
        subst hacc
        refine ev_neg (by omega) (ev_bind (spec_QuoteWord_ev l[i] hxi) ?_)
        rw [← hq, S_append, S_size, S_size, S_size, List.nil_append]
        refine ev_pos (by simp only [List.length_nil]; omega) ?_
        by_cases h200 : ((quoteW (bytesOf l[i])).length : Int) > 200
        · refine ev_pos h200 (ev_of ?_)
          rw [if_neg (by rw [hT, List.nil_append, List.length_append]; omega)]
          rfl
        · refine ev_neg h200 (ev_cast (ih (i + 1) _ (by omega) (by omega) (by omega) (by omega) _ rfl) ?_)
          rw [hT, List.nil_append, hT']
      · rw [if_neg hi0, tailJ] at hT
        refine ev_pos (by omega) (ev_pos (by rw [S_size]; omega) (ev_bind (spec_QuoteWord_ev l[i] hxi) ?_))
        rw [show (⟨#[32]⟩ : ByteArray) = strOfNums [32] from rfl, ← hq, S_append, S_append, S_size, S_size, S_size]
        refine ev_pos (by simp only [List.length_append, List.length_cons, List.length_nil]; omega) ?_
        by_cases h200 : ((acc ++ [32] ++ quoteW (bytesOf l[i])).length : Int) > 200
        · refine ev_pos h200 (ev_of ?_)
          rw [if_neg (by rw [hT]; simp only [List.length_append, List.length_cons, List.length_nil] at h200 ⊢; omega)]
          rfl
        · refine ev_neg h200 (ev_cast (ih (i + 1) _ (by omega) (by simp only [List.length_append, List.length_cons, List.length_nil]; omega) (by omega) (by omega) _ rfl) ?_)
          rw [hT, ← hT']
          simp only [List.append_assoc, List.cons_append, List.nil_append]
theorem spec_JoinWords_ev (l : List ByteArray) (hl : l.length ≤ 1048576) (hx : ∀ x ∈ l, x.size ≤ 1048576) : Ev (fun k => spec_JoinWords.f k l) (strOfNums (joinW (l.map bytesOf))) := by
  have h := spec_JoinWords_l0 l hl hx l.length 0 [] (by omega) (by omega) (by simp) (fun _ => rfl) _ rfl
  unfold joinW
  rw [List.drop_zero, if_pos rfl, List.nil_append] at h
  rw [List.all_map, List.map_map]
  exact h

end Go.Proofs.Ytcnkakaipajloaa.Q
