/- What Trim and Split at one byte come to; no condition. -/
import Derived.Test.YtcnkakaipajloaaDoorC2
import Derived.Test.YtcnkakaipajloaaDoorQ10
import Derived.Test.YtcnkakaipajloaaDoorQ5
set_option linter.unusedVariables false
set_option linter.unusedSimpArgs false
namespace Go.Proofs.YtcnkakaipajloaaDoor.Q
open Go.RowKit Go.Proofs.YtcnkakaipajloaaDoorV.PrintWords Go.Proofs.YtcnkakaipajloaaDoorV.PrintLast Go.Proofs.YtcnkakaipajloaaDoorV.PrintMore
/-! ## Trim and Split at one byte, on lists of bytes -/
def nb (l : List UInt8) : List Int := l.map fun b => (b.toNat : Int)
theorem nb_bytes (s : ByteArray) : bytesOf s = nb s.data.toList := rfl
theorem nb_mk (l : List UInt8) : bytesOf (⟨l.toArray⟩ : ByteArray) = nb l := rfl
theorem nb_inj32 (b : UInt8) : ((b.toNat : Int) = 32) ↔ b = 32 := by
  constructor
  · intro h
    apply UInt8.toNat_inj.1
    have : (32 : UInt8).toNat = 32 := rfl
    omega
  · intro h; rw [h]; rfl
theorem nb_ltrim (l : List UInt8) : nb (Lib.trimLeftB l 32) = ltrim (nb l) := by
  induction l with
  | nil => rfl
  | cons b r ih =>
    by_cases h : b = 32
    · subst h
      have e : nb ((32 : UInt8) :: r) = 32 :: nb r := rfl
      rw [e, ltrim_sp, ← ih]
      unfold Lib.trimLeftB
      rw [List.dropWhile_cons_of_pos (by simp)]
    · have e : nb (b :: r) = (b.toNat : Int) :: nb r := rfl
      rw [e, ltrim_ne _ (fun q => h ((nb_inj32 b).1 q))]
      unfold Lib.trimLeftB
      rw [List.dropWhile_cons_of_neg (by simpa using h), e]
theorem nb_rtrim (l : List UInt8) : nb (Lib.trimRightB l 32) = rtrim (nb l) := by
  have h : ∀ m : List UInt8, nb m.reverse = (nb m).reverse := fun m => by simp [nb]
  have e : Lib.trimRightB l 32 = (Lib.trimLeftB l.reverse 32).reverse := rfl
  rw [e, h, nb_ltrim, h]
  rfl
def trimS (s : ByteArray) : ByteArray := strOfNums (trimT (bytesOf s))
theorem trimT_IsB {l : List Int} (h : IsB l) : IsB (trimT l) := h.sub (trim_sub l).subset
theorem L_trimS (s : ByteArray) : bytesOf (trimS s) = trimT (bytesOf s) := L_S (trimT_IsB (L_IsB s))
theorem trimS_size (s : ByteArray) : (trimS s).size ≤ s.size := by
  rw [← L_len, L_trimS, ← L_len s]
  exact (trim_sub _).length_le
theorem strings_Trim_eq (s : ByteArray) (hs : s.size ≤ 9223372036854775807) : strings_Trim.f s (⟨#[32]⟩ : ByteArray) = some (trimS s) := by
  unfold strings_Trim.f
  show (if (32 : UInt8).toNat < 128 ∧ s.size ≤ 9223372036854775807 then _ else _) = _
  rw [if_pos ⟨by decide, hs⟩]
  refine congrArg some (L_inj ?_)
  rw [L_trimS, nb_mk, ← trim_comm]
  unfold Lib.trimB
  rw [nb_ltrim, nb_rtrim]
  rfl
theorem indexByte_cases (c : UInt8) : ∀ l : List UInt8, (Lib.indexByte l c = -1 ∧ c ∉ l) ∨ ∃ a b, l = a ++ c :: b ∧ c ∉ a ∧ Lib.indexByte l c = (a.length : Int)
  | [] => .inl ⟨rfl, by simp⟩
  | x :: r => by
    by_cases h : x = c
    · subst h
      exact .inr ⟨[], r, rfl, by simp, by simp [Lib.indexByte]⟩
    · rcases indexByte_cases c r with ⟨h1, h2⟩ | ⟨a, b, h1, h2, h3⟩
      · refine .inl ⟨?_, by simp [h2, Ne.symm h]⟩
        simp [Lib.indexByte, h, h1]
      · refine .inr ⟨x :: a, b, by rw [h1]; rfl, by simp [h2, Ne.symm h], ?_⟩
        simp only [Lib.indexByte, h3, List.length_cons]
        simp [h]
        try omega
theorem nb_ne {c : UInt8} {a : List UInt8} (h : c ∉ a) : ∀ x ∈ nb a, x ≠ (c.toNat : Int) := by
  intro x hx
  obtain ⟨b, hb, rfl⟩ := List.mem_map.1 hx
  intro e
  have : b = c := UInt8.toNat_inj.1 (by omega)
  exact h (this ▸ hb)
theorem splitK_pcs (c : UInt8) : ∀ (k : Nat) (l : List UInt8), l.count c = k → (Lib.splitK [c] 0 k l).map nb = pcs (c.toNat : Int) [] (nb l) := by
  intro k
  induction k with
  | zero =>
    intro l hk
    rw [Lib.splitK, pcs_none _ _ _ (nb_ne (List.count_eq_zero.1 hk))]
    rfl
  | succ k ih =>
    intro l hk
    rcases indexByte_cases c l with ⟨h1, h2⟩ | ⟨a, b, h1, h2, h3⟩
    · rw [List.count_eq_zero.2 h2] at hk
      omega
    · have hc : b.count c = k := by
        rw [h1, List.count_append, List.count_cons_self, List.count_eq_zero.2 h2] at hk
        omega
      have hn : ¬ (Lib.index l [c] == -1) = true := by
        rw [Lib.index_one, h3]
        intro e
        have := beq_iff_eq.1 e
        omega
      rw [Lib.splitK, if_neg hn, Lib.index_one, h3, Int.toNat_natCast, List.map_cons, Nat.add_zero]
      have e1 : l.take a.length = a := by rw [h1]; exact List.take_left
      have e2 : l.drop (a.length + [c].length) = b := by
        rw [h1, ← List.drop_drop, List.drop_left]; rfl
      rw [e1, e2, ih b hc]
      have e3 : nb l = nb a ++ (c.toNat : Int) :: nb b := by rw [h1]; simp [nb]
      rw [e3, pcs_hit _ _ _ _ (nb_ne h2)]
      rfl
theorem strings_Split_eq (s : ByteArray) (hs : s.size < 4294967281) : ∃ ps, strings_Split.f s (⟨#[46]⟩ : ByteArray) = some ps ∧ ps.map bytesOf = pcs 46 [] (bytesOf s) ∧ ps.length ≤ s.size + 1 := by
  refine ⟨Lib.splitB (⟨#[46]⟩ : ByteArray) 0 (Lib.countB s (⟨#[46]⟩ : ByteArray)) s, ?_, ?_, ?_⟩
  · unfold strings_Split.f
    rw [if_pos ⟨hs, rfl⟩]
  · have h := Lib.splitB_data (⟨#[46]⟩ : ByteArray) 0 (Lib.countB s (⟨#[46]⟩ : ByteArray)) s
    have e : (Lib.splitB (⟨#[46]⟩ : ByteArray) 0 (Lib.countB s (⟨#[46]⟩ : ByteArray)) s).map bytesOf = ((Lib.splitB (⟨#[46]⟩ : ByteArray) 0 (Lib.countB s (⟨#[46]⟩ : ByteArray)) s).map (·.data.toList)).map nb := by
      rw [List.map_map]; rfl
    rw [e, h]
    exact splitK_pcs 46 _ _ (Lib.count_one 46 s.data.toList).symm
  · rw [Lib.splitB_all (⟨#[46]⟩ : ByteArray) (Nat.le_refl 1) 0 _ s rfl]
    have := Lib.countB_le (⟨#[46]⟩ : ByteArray) (Nat.le_refl 1) s.size s (Nat.le_refl _)
    omega

end Go.Proofs.YtcnkakaipajloaaDoor.Q
