/- What the printed lines of fields come to; no condition. -/
import Derived.Test.YtcnkakaipajloaaDoorK3v
import Derived.Test.YtcnkakaipajloaaDoorKL
import Derived.Test.YtcnkakaipajloaaDoorQ11
import Derived.Test.YtcnkakaipajloaaDoorQ13
set_option linter.unusedVariables false
set_option linter.unusedSimpArgs false
namespace Go.Proofs.YtcnkakaipajloaaDoor.Q
open Go.RowKit Go.Proofs.YtcnkakaipajloaaDoorV.PrintWords Go.Proofs.YtcnkakaipajloaaDoorV.PrintLast Go.Proofs.YtcnkakaipajloaaDoorV.PrintMore
/-! ## What the printed lines of fields come to -/
def foldB (a b : ByteArray) : List ByteArray := (foldL (bytesOf a) (bytesOf b)).map strOfNums
/-- The lines of a field that is valid; none of another. -/
def foldV (a b : ByteArray) : List ByteArray := if fieldOk (bytesOf a) (bytesOf b) = true then foldB a b else []
def aI : Option Nat → Int
  | none => -1
  | some a => (a : Int)
theorem aI_neg (o : Option Nat) : aI o < 0 ↔ o = none := by
  cases o with
  | none => simp [aI]
  | some a => simp [aI]
theorem okB_bt (s : ByteArray) (i : Nat) (h1 : 1 ≤ i) (h2 : i + 1 < s.size) : okB (bytesOf s) i = true ↔ bt s i = 32 ∧ bt s ((i - 1 : Nat) : Int) ≠ 32 ∧ bt s ((i + 1 : Nat) : Int) ≠ 32 := by
  unfold okB
  rw [bt_get s i (by omega), bt_get s (i - 1) (by omega), bt_get s (i + 1) h2]
  simp
theorem impl_fold_brk (s : ByteArray) (hs : s.size ≤ 1048576) (out : List ByteArray) (R : List ByteArray) : ∀ (d i : Nat) (a : Option Nat), 1 ≤ i → (i + 1 + d = s.size ∨ (d = 0 ∧ s.size ≤ i + 1)) → i ≤ 2000000 →
    (∀ o, brkN (bytesOf s) d i a = o → Ev (fun k => (if aI o < 0 then (if out.length < 8796093022208 then some (out ++ [s]) else none) else (if 0 ≤ aI o then (if aI o ≤ (s.size : Int) then (if out.length < 8796093022208 then impl_foldField.l0 k (s.extract (aI o).toNat s.size) 2 (out ++ [s.extract 0 (aI o).toNat]) else none) else none) else none))) R) →
    Ev (fun k => impl_foldField.l1 k s out (aI a) (i : Int)) R := by
  intro d
  induction d with
  | zero =>
    intro i a h1 hd hi hR
    refine ev_succ ?_
    simp only [impl_foldField.l1]
    rw [wrap_succ i (by omega)]
    exact ev_neg (by omega) (hR _ rfl)
  | succ d ih =>
    intro i a h1 hd hi hR
    have hlt : i + 1 < s.size := by omega
    have em : wrap64 ((i : Int) - 1) = ((i - 1 : Nat) : Int) := by rw [wrap_id (by omega) (by omega)]; omega
    have hb := okB_bt s i h1 hlt
    refine ev_succ ?_
    simp only [impl_foldField.l1]
    rw [wrap_succ i (by omega), em]
    refine ev_pos (by omega) (ev_pos (by omega) (ev_pos (by omega) ?_))
    rw [brkN] at hR
    have go := fun a' h => ih (i + 1) a' (by omega) (by omega) (by omega) h
    by_cases g1 : bt s i = 32
    · refine ev_pos g1 (ev_pos (by omega) (ev_pos (by omega) ?_))
      by_cases g2 : bt s ((i - 1 : Nat) : Int) = 32
      · rw [if_neg (fun h => (hb.1 h.1).2.1 g2)] at hR
        exact ev_pos g2 (go a hR)
      · refine ev_neg g2 (ev_pos (by omega) ?_)
        by_cases g3 : bt s ((i + 1 : Nat) : Int) = 32
        · rw [if_neg (fun h => (hb.1 h.1).2.2 g3)] at hR
          exact ev_pos g3 (go a hR)
        · have hk := hb.2 ⟨g1, g2, g3⟩
          refine ev_neg g3 ?_
          by_cases g4 : aI a < 0
          · rw [if_pos ⟨hk, .inl ((aI_neg a).1 g4)⟩] at hR
            exact ev_pos g4 (go (some i) hR)
          · refine ev_neg g4 ?_
            by_cases g5 : (i : Int) ≤ 40
            · rw [if_pos ⟨hk, .inr (by omega)⟩] at hR
              exact ev_pos g5 (go (some i) hR)
            · rw [if_neg (fun h => h.2.elim (fun e => g4 ((aI_neg a).2 e)) (fun e => g5 (by omega)))] at hR
              exact ev_neg g5 (go a hR)
    · rw [if_neg (fun h => g1 (hb.1 h.1).1)] at hR
      exact ev_neg g1 (go a hR)
theorem impl_fold_l0 : ∀ (n : Nat) (s : ByteArray) (i : Nat) (out : List ByteArray), s.size ≤ n → n ≤ 1048576 → 2 ≤ i → i ≤ 100 → out.length + n ≤ 2000000 → Ev (fun k => impl_foldField.l0 k s (i : Int) out) (out ++ (foldF n (bytesOf s) i).map strOfNums) := by
  intro n
  induction n with
  | zero =>
    intro s i out hs hn h2 h100 ho
    refine ev_succ ?_
    simp only [impl_foldField.l0]
    refine ev_neg (by omega) (ev_pos (by omega) (ev_of ?_))
    simp only [foldF, List.map_cons, List.map_nil, S_L]
  | succ n ih =>
    intro s i out hs hn h2 h100 ho
    refine ev_succ ?_
    simp only [impl_foldField.l0]
    rw [foldF, L_len]
    by_cases h40 : 40 < s.size
    · rw [if_pos h40]
      refine ev_pos (by omega) ?_
      refine impl_fold_brk s (by omega) out _ (s.size - 1 - i) i none (by omega) (by omega) (by omega) fun o ho' => ?_
      have ho2 : brk (bytesOf s) i = o := by unfold brk; rw [L_len]; exact ho'
      rw [ho2]
      cases o with
      | none =>
        refine ev_pos (by simp [aI]) (ev_pos (by omega) (ev_of ?_))
        simp only [List.map_cons, List.map_nil, S_L]
      | some a =>
        obtain ⟨b1, b2, _⟩ := brk_some ho2
        rw [L_len] at b2
        simp only [aI]
        rw [Int.toNat_natCast]
        have hz : (s.extract a s.size).size = s.size - a := by rw [← L_len, L_from, List.length_drop, L_len]
        refine ev_neg (by omega) (ev_pos (by omega) (ev_pos (by omega) (ev_pos (by omega) ?_)))
        refine ev_cast (ih (s.extract a s.size) 2 _ (by omega) (by omega) (by omega) (by omega) (by simp only [List.length_append, List.length_cons, List.length_nil]; omega)) ?_
        rw [L_from, List.map_cons, List.append_assoc, ← L_to, S_L]
        rfl
    · rw [if_neg h40]
      refine ev_neg (by omega) (ev_pos (by omega) (ev_of ?_))
      simp only [List.map_cons, List.map_nil, S_L]
theorem line_S (a b : ByteArray) : (b.toList = ([] : List UInt8) → bytesOf (a ++ (⟨#[58]⟩ : ByteArray)) = lineF (bytesOf a) (bytesOf b)) ∧ (b.toList ≠ ([] : List UInt8) → bytesOf (a ++ (⟨#[58]⟩ : ByteArray) ++ ((⟨#[32]⟩ : ByteArray) ++ b)) = lineF (bytesOf a) (bytesOf b)) := by
  unfold lineF
  constructor
  · intro h
    rw [L_append, if_pos ((nilB b).1 h)]
    rfl
  · intro h
    rw [L_append, L_append, L_append, if_neg (fun e => h ((nilB b).2 e)), List.append_assoc]
    rfl
theorem impl_foldField_ev (a b : ByteArray) (ha : a.size ≤ 30) (hb : b.size ≤ 1000) : Ev (fun k => impl_foldField.f k a b) (foldB a b) := by
  unfold impl_foldField.f foldB foldL
  have ew : wrap64 ((a.size : Int) + 3) = ((a.size + 3 : Nat) : Int) := by rw [wrap_id (by omega) (by omega)]; omega
  obtain ⟨l1, l2⟩ := line_S a b
  rw [ew, L_len]
  refine ev_pos (by omega) ?_
  by_cases h : b.toList = ([] : List UInt8)
  · have e := l1 h
    have hz : (a ++ (⟨#[58]⟩ : ByteArray)).size = a.size + 1 := by rw [size_append]; rfl
    refine ev_pos h (ev_succ ?_)
    simp only [impl_foldField.j0]
    have hgo := impl_fold_l0 (a ++ (⟨#[58]⟩ : ByteArray)).size (a ++ (⟨#[58]⟩ : ByteArray)) (a.size + 3) [] (Nat.le_refl _) (by omega) (by omega) (by omega) (by simp only [List.length_nil]; omega)
    rw [e, List.nil_append, ← L_len (a ++ (⟨#[58]⟩ : ByteArray)), e] at hgo
    exact hgo
  · have e := l2 h
    have hz : (a ++ (⟨#[58]⟩ : ByteArray) ++ ((⟨#[32]⟩ : ByteArray) ++ b)).size = a.size + 1 + (1 + b.size) := by rw [size_append, size_append, size_append]; rfl
    have hz1 : (a ++ (⟨#[58]⟩ : ByteArray)).size = a.size + 1 := by rw [size_append]; rfl
    have hz2 : ((⟨#[32]⟩ : ByteArray) ++ b).size = 1 + b.size := by rw [size_append]; rfl
    refine ev_neg h (ev_pos (by omega) (ev_pos (by omega) (ev_succ ?_)))
    simp only [impl_foldField.j0]
    have hgo := impl_fold_l0 (a ++ (⟨#[58]⟩ : ByteArray) ++ ((⟨#[32]⟩ : ByteArray) ++ b)).size (a ++ (⟨#[58]⟩ : ByteArray) ++ ((⟨#[32]⟩ : ByteArray) ++ b)) (a.size + 3) [] (Nat.le_refl _) (by omega) (by omega) (by omega) (by simp only [List.length_nil]; omega)
    rw [e, List.nil_append, ← L_len (a ++ (⟨#[58]⟩ : ByteArray) ++ ((⟨#[32]⟩ : ByteArray) ++ b)), e] at hgo
    exact hgo
theorem field_sizes {a b : ByteArray} (h : fieldOk (bytesOf a) (bytesOf b) = true) : a.size ≤ 30 ∧ b.size ≤ 150 := by
  obtain ⟨h1, _, h3, _⟩ := fieldOk_iff.1 h
  have := (nameOk_len h1).2
  rw [L_len] at this h3
  exact ⟨this, h3⟩
theorem impl_FoldField_ev (a b : ByteArray) (ha : a.size ≤ 1048576) (hb : b.size ≤ 1048576) : Ev (fun k => impl_FoldField.f k a b) (foldV a b) := by
  unfold impl_FoldField.f foldV
  refine ev_bind (impl_FieldValid_ev a b ha hb) ?_
  cases h : fieldOk (bytesOf a) (bytesOf b) with
  | false => rw [if_neg (show ¬ (false = true) by decide)]; exact ev_neg (by decide) (Ev.now _)
  | true =>
    obtain ⟨z1, z2⟩ := field_sizes h
    rw [if_pos rfl]
    exact ev_pos rfl (ev_bind (impl_foldField_ev a b z1 (by omega)) (Ev.now _))
theorem spec_brk (s : ByteArray) (hs : s.size ≤ 1048576) : ∀ (d i : Nat) (a : Option Nat), 1 ≤ i → (i + 1 + d = s.size ∨ (d = 0 ∧ s.size ≤ i + 1)) → i ≤ 2000000 → Ev (fun k => spec_l3Break.l0 k s (aI a) (i : Int)) (aI (brkN (bytesOf s) d i a)) := by
  intro d
  induction d with
  | zero =>
    intro i a h1 hd hi
    refine ev_succ ?_
    simp only [spec_l3Break.l0]
    rw [wrap_succ i (by omega)]
    exact ev_neg (by omega) (Ev.now _)
  | succ d ih =>
    intro i a h1 hd hi
    have hlt : i + 1 < s.size := by omega
    have em : wrap64 ((i : Int) - 1) = ((i - 1 : Nat) : Int) := by rw [wrap_id (by omega) (by omega)]; omega
    have hb := okB_bt s i h1 hlt
    have go := fun a' => ih (i + 1) a' (by omega) (by omega) (by omega)
    refine ev_succ ?_
    simp only [spec_l3Break.l0]
    rw [wrap_succ i (by omega), em, brkN]
    refine ev_pos (by omega) (ev_pos (by omega) (ev_pos (by omega) ?_))
    have skip : okB (bytesOf s) i ≠ true → Ev (fun k => spec_l3Break.j1 k s (aI a) (i : Int) true) (aI (brkN (bytesOf s) d (i + 1) (if okB (bytesOf s) i = true ∧ (a = none ∨ i ≤ 40) then some i else a))) := by
      intro hn
      rw [if_neg (fun h => hn h.1)]
      refine ev_succ ?_
      simp only [spec_l3Break.j1, if_true]
      rw [wrap_succ i (by omega)]
      exact go a
    by_cases g1 : bt s i = 32
    · refine ev_pos g1 (ev_pos (by omega) (ev_pos (by omega) ?_))
      by_cases g2 : bt s ((i - 1 : Nat) : Int) = 32
      · exact ev_pos g2 (skip fun h => (hb.1 h).2.1 g2)
      · refine ev_neg g2 (ev_pos (by omega) ?_)
        by_cases g3 : bt s ((i + 1 : Nat) : Int) = 32
        · rw [g3]
          exact skip fun h => (hb.1 h).2.2 g3
        · have hk := hb.2 ⟨g1, g2, g3⟩
          rw [show (bt s ((i + 1 : Nat) : Int) == 32) = false from beq_eq_false_iff_ne.2 g3]
          refine ev_succ ?_
          simp only [spec_l3Break.j1, Bool.false_eq_true, if_false]
          rw [wrap_succ i (by omega)]
          by_cases g5 : (i : Int) ≤ 40
          · rw [if_pos ⟨hk, .inr (by omega)⟩]
            exact ev_pos g5 (go (some i))
          · refine ev_neg g5 ?_
            by_cases g4 : aI a < 0
            · rw [if_pos ⟨hk, .inl ((aI_neg a).1 g4)⟩]
              exact ev_pos g4 (go (some i))
            · rw [if_neg (fun h => h.2.elim (fun e => g4 ((aI_neg a).2 e)) (fun e => g5 (by omega)))]
              exact ev_neg g4 (go a)
    · exact ev_neg g1 (skip fun h => g1 (hb.1 h).1)
theorem spec_fold_l0 : ∀ (n : Nat) (s : ByteArray) (i : Nat) (out : List ByteArray), s.size ≤ n → n ≤ 1048576 → 2 ≤ i → i ≤ 100 → out.length + n ≤ 2000000 → Ev (fun k => spec_FoldField.l0 k out s ((i - 1 : Nat) : Int)) (out ++ (foldF n (bytesOf s) i).map strOfNums) := by
  intro n
  induction n with
  | zero =>
    intro s i out hs hn h2 h100 ho
    refine ev_succ ?_
    simp only [spec_FoldField.l0]
    refine ev_neg (by omega) (ev_pos (by omega) (ev_of ?_))
    simp only [foldF, List.map_cons, List.map_nil, S_L]
  | succ n ih =>
    intro s i out hs hn h2 h100 ho
    refine ev_succ ?_
    simp only [spec_FoldField.l0]
    rw [foldF, L_len]
    by_cases h40 : 40 < s.size
    · rw [if_pos h40]
      refine ev_pos (by omega) ?_
      have hbk : Ev (fun k => spec_l3Break.f k s ((i - 1 : Nat) : Int)) (aI (brk (bytesOf s) i)) := by
        unfold spec_l3Break.f brk
        rw [wrap_succ (i - 1) (by omega), L_len, show i - 1 + 1 = i by omega]
        exact spec_brk s (by omega) (s.size - 1 - i) i none (by omega) (by omega) (by omega)
      refine ev_bind hbk ?_
      cases hk : brk (bytesOf s) i with
      | none =>
        refine ev_pos (by simp [aI]) (ev_pos (by omega) (ev_of ?_))
        simp only [List.map_cons, List.map_nil, S_L]
      | some a =>
        obtain ⟨b1, b2, _⟩ := brk_some hk
        rw [L_len] at b2
        simp only [aI]
        rw [Int.toNat_natCast]
        have hz : (s.extract a s.size).size = s.size - a := by rw [← L_len, L_from, List.length_drop, L_len]
        refine ev_neg (by omega) (ev_pos (by omega) (ev_pos (by omega) (ev_pos (by omega) ?_)))
        refine ev_cast (ih (s.extract a s.size) 2 _ (by omega) (by omega) (by omega) (by omega) (by simp only [List.length_append, List.length_cons, List.length_nil]; omega)) ?_
        rw [L_from, List.map_cons, List.append_assoc, ← L_to, S_L]
        rfl
    · rw [if_neg h40]
      refine ev_neg (by omega) (ev_pos (by omega) (ev_of ?_))
      simp only [List.map_cons, List.map_nil, S_L]
theorem foldF_short {n : Nat} {l : List Int} (i : Nat) (h : l.length ≤ 40) : foldF n l i = [l] := by
  cases n with
  | zero => rfl
  | succ n => rw [foldF, if_neg (by omega)]
theorem spec_FoldField_ev (a b : ByteArray) (ha : a.size ≤ 1048576) (hb : b.size ≤ 1048576) : Ev (fun k => spec_FoldField.f k a b) (foldV a b) := by
  unfold spec_FoldField.f foldV
  refine ev_bind1 rfl (ev_bind (spec_FieldValid_ev a b ha hb) ?_)
  cases h : fieldOk (bytesOf a) (bytesOf b) with
  | false => rw [if_neg (show ¬ (false = true) by decide)]; exact ev_neg (by decide) (Ev.now _)
  | true =>
    obtain ⟨z1, z2⟩ := field_sizes h
    rw [if_pos rfl]
    unfold foldB foldL
    have hz1 : (a ++ (⟨#[58]⟩ : ByteArray)).size = a.size + 1 := by rw [size_append]; rfl
    obtain ⟨l1, l2⟩ := line_S a b
    rw [L_len]
    refine ev_pos rfl (ev_pos (by omega) ?_)
    by_cases hn : b.toList = ([] : List UInt8)
    · have e := l1 hn
      refine ev_pos hn (ev_succ ?_)
      simp only [spec_FoldField.j0]
      have hgo := spec_fold_l0 (a ++ (⟨#[58]⟩ : ByteArray)).size (a ++ (⟨#[58]⟩ : ByteArray)) ((a ++ (⟨#[58]⟩ : ByteArray)).size + 1) [] (Nat.le_refl _) (by omega) (by omega) (by omega) (by simp only [List.length_nil]; omega)
      rw [Nat.add_sub_cancel, e, List.nil_append, foldF_short _ (by rw [← e, L_len]; omega)] at hgo
      rw [foldF_short _ (by rw [← e, L_len]; omega)]
      exact hgo
    · have e := l2 hn
      have hz2 : ((⟨#[32]⟩ : ByteArray) ++ b).size = 1 + b.size := by rw [size_append]; rfl
      have hz3 : (a ++ (⟨#[58]⟩ : ByteArray) ++ (⟨#[32]⟩ : ByteArray)).size = a.size + 2 := by rw [size_append, size_append]; rfl
      have eq : a ++ (⟨#[58]⟩ : ByteArray) ++ (⟨#[32]⟩ : ByteArray) ++ b = a ++ (⟨#[58]⟩ : ByteArray) ++ ((⟨#[32]⟩ : ByteArray) ++ b) := by
        apply L_inj
        simp only [L_append, List.append_assoc]
      have ew : wrap64 (((a ++ (⟨#[58]⟩ : ByteArray)).size : Int) + 1) = ((a.size + 3 - 1 : Nat) : Int) := by rw [wrap_id (by omega) (by omega)]; omega
      have hz : (a ++ (⟨#[58]⟩ : ByteArray) ++ ((⟨#[32]⟩ : ByteArray) ++ b)).size = a.size + 1 + (1 + b.size) := by rw [size_append, size_append, size_append]; rfl
      refine ev_neg hn (ev_pos (by omega) (ev_pos (by omega) (ev_succ ?_)))
      simp only [spec_FoldField.j0]
      rw [ew, eq]
      have hgo := spec_fold_l0 (a ++ (⟨#[58]⟩ : ByteArray) ++ ((⟨#[32]⟩ : ByteArray) ++ b)).size (a ++ (⟨#[58]⟩ : ByteArray) ++ ((⟨#[32]⟩ : ByteArray) ++ b)) (a.size + 3) [] (Nat.le_refl _) (by omega) (by omega) (by omega) (by simp only [List.length_nil]; omega)
      rw [e, List.nil_append, ← L_len (a ++ (⟨#[58]⟩ : ByteArray) ++ ((⟨#[32]⟩ : ByteArray) ++ b)), e] at hgo
      exact hgo
theorem foldB_pos (a b : ByteArray) : (fieldOk (bytesOf a) (bytesOf b) = true → 0 < (foldV a b).length) ∧ (0 < (foldV a b).length → fieldOk (bytesOf a) (bytesOf b) = true) := by
  unfold foldV
  constructor
  · intro h
    rw [if_pos h]
    obtain ⟨x, t, e, _⟩ := foldL_wide (bytesOf a) (bytesOf b)
    unfold foldB
    rw [e]
    simp
  · intro h
    cases hf : fieldOk (bytesOf a) (bytesOf b) with
    | true => rfl
    | false => rw [hf, if_neg (by decide)] at h; simp at h
theorem foldV_len (a b : ByteArray) (ha : a.size ≤ 1048576) (hb : b.size ≤ 1048576) : (foldV a b).length ≤ 4000000 := by
  unfold foldV
  split
  · unfold foldB foldL
    rw [List.length_map]
    have h1 := foldF_len (lineF (bytesOf a) (bytesOf b)).length (lineF (bytesOf a) (bytesOf b)) ((bytesOf a).length + 3)
    have h2 := lineF_len (bytesOf a) (bytesOf b)
    rw [L_len, L_len] at h2
    split at h2 <;> omega
  · simp

end Go.Proofs.YtcnkakaipajloaaDoor.Q
