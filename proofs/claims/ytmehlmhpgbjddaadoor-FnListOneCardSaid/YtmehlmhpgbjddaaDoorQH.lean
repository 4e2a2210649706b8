/- What functions of the program come to, written by a program of this session (mwprint.py); no condition. -/
import Derived.Test.YtmehlmhpgbjddaaDoorProg
import Derived.Below
import Derived.Deep.Draws
import Derived.Deep.AppendLies
import Derived.Maps.AppendAt
import Derived.OwnWalk
import Derived.Laws.BytesArg
import Derived.Laws.MakeOwn
import Derived.Laws.OwnMore
import Derived.Deep.OwnRows
import Derived.Tactics
import Derived.Lib.ConvBytes
import Derived.Laws.Slices
import Derived.WalkKit
import Derived.KernelRfl
import Derived.RowKit3
import Derived.Deep.LoopGhost
import Derived.Deep.QuietTactic
import Derived.BigQuiet
import Derived.WideLaws
import Derived.Deep.DeepCutAuto
import Derived.Deep.CutBlock
import Derived.Deep.RegionHeld3
import Derived.Laws.Rows
import Derived.Lib.AppendStr
import Derived.ArgAppend
import Derived.Laws.IdiomCopy
import Derived.OrdersHeld
import Derived.Laws.BitsLemmas
import Derived.RowKit
import Derived.Test.YtmehlmhpgbjddaaDoorVWords
import Derived.Test.YtmehlmhpgbjddaaDoorVLast
import Derived.Test.YtmehlmhpgbjddaaDoorVTab
import Derived.Test.YtmehlmhpgbjddaaDoorVFour
import Derived.Test.YtmehlmhpgbjddaaDoorVQPut
import Derived.Test.YtmehlmhpgbjddaaDoorVApart
import Derived.Test.YtmehlmhpgbjddaaDoorVArr
import Derived.Test.YtmehlmhpgbjddaaDoorVZeros
import Derived.Test.YtmehlmhpgbjddaaDoorVFoot
import Derived.Test.YtmehlmhpgbjddaaDoorVKept
import Derived.Test.YtmehlmhpgbjddaaDoorVShare
import Derived.Test.YtmehlmhpgbjddaaDoorVN
import Derived.Test.YtmehlmhpgbjddaaDoorVFootNe
import Derived.Test.YtmehlmhpgbjddaaDoorVAt
import Derived.Test.YtmehlmhpgbjddaaDoorVEqStruct
import Derived.Test.YtmehlmhpgbjddaaDoorVRepsOne
import Derived.Test.YtmehlmhpgbjddaaDoorVInv
import Derived.Test.YtmehlmhpgbjddaaDoorVInvWords
import Derived.Test.YtmehlmhpgbjddaaDoorVGuard
import Derived.Test.YtmehlmhpgbjddaaDoorVNEv
import Derived.Test.YtmehlmhpgbjddaaDoorVMore
import Derived.Shelf.Abstract
import Derived.Lib.SliceRun
import Derived.Test.YtmehlmhpgbjddaaDoorQS
namespace Go.Proofs.YtmehlmhpgbjddaaDoor.Q
open Go.RowKit Go.Proofs.YtmehlmhpgbjddaaDoorV.PrintWords Go.Proofs.YtmehlmhpgbjddaaDoorV.PrintLast Go.Proofs.YtmehlmhpgbjddaaDoorV.PrintMore
/-- All elements fulfil it, asked one after the other. -/
def allO {α : Type} (p : α → Option Bool) : List α → Option Bool
  | [] => some true
  | x :: xs => (p x).bind fun b => if b = true then allO p xs else some false
/-- One element fulfils it, asked one after the other. -/
def anyO {α : Type} (p : α → Option Bool) : List α → Option Bool
  | [] => some false
  | x :: xs => (p x).bind fun b => if b = true then some true else anyO p xs
theorem allO_mono {α : Type} {p q : α → Option Bool} (h : ∀ x, LeO (p x) (q x)) : ∀ l : List α, LeO (allO p l) (allO q l)
  | [] => LeO.refl _
  | _ :: xs => LeO.bind (h _) fun _ => LeO.ite (allO_mono h xs) (LeO.refl _)
theorem anyO_mono {α : Type} {p q : α → Option Bool} (h : ∀ x, LeO (p x) (q x)) : ∀ l : List α, LeO (anyO p l) (anyO q l)
  | [] => LeO.refl _
  | _ :: xs => LeO.bind (h _) fun _ => LeO.ite (LeO.refl _) (anyO_mono h xs)
theorem bytesOf_drop (s : ByteArray) (i : Nat) (hi : i < s.size) : (bytesOf s).drop i = bt s i :: (bytesOf s).drop (i + 1) := by
  have hl : i < (bytesOf s).length := by rw [bytesOf_length]; exact hi
  rw [List.drop_eq_getElem_cons hl]
  congr 1
  have := rd_bytesOf s (i : Int)
  rw [← this, rd, Int.toNat_natCast, List.getD_eq_getElem?_getD, List.getElem?_eq_getElem hl]
  rfl
/-! ### LowerText: '[]byte(s)', its bytes written one by one, and back -/
def low8 (x : Int) : Int := if 65 ≤ x ∧ x ≤ 90 then x + 32 else x
def lowL (s : ByteArray) (i : Nat) : List Int := ((bytesOf s).take i).map low8 ++ (bytesOf s).drop i
def lowT (s : ByteArray) : ByteArray := strOfNums ((bytesOf s).map low8)
def LowRow (w W : World) (s : ByteArray) (i : Nat) : Prop :=
  Below w.heap.size w W ∧ w.heap.size < W.heap.size ∧ (∀ j, j < s.size → W.cell? ⟨w.heap.size, j, none⟩ = some (.int .u8 ((lowL s i).getD j 0))) ∧ (∀ j, j < s.size → W.frozen? ⟨w.heap.size, j, none⟩ = false)
theorem lowL_length (s : ByteArray) (i : Nat) (hi : i ≤ s.size) : (lowL s i).length = s.size := by
  simp only [lowL, List.length_append, List.length_map, List.length_take, List.length_drop, bytesOf_length]
  omega
theorem lowL_zero (s : ByteArray) : lowL s 0 = bytesOf s := by simp [lowL]
theorem lowL_all (s : ByteArray) : lowL s s.size = (bytesOf s).map low8 := by
  simp only [lowL]
  rw [List.take_of_length_le (by rw [bytesOf_length]; omega), List.drop_eq_nil_of_le (by rw [bytesOf_length]; omega), List.append_nil]
theorem bytesOf_at (s : ByteArray) (i : Nat) (hi : i < s.size) : (bytesOf s)[i]'(by rw [bytesOf_length]; exact hi) = bt s i := by
  have := rd_bytesOf s (i : Int)
  rw [← this, rd, Int.toNat_natCast, List.getD_eq_getElem?_getD, List.getElem?_eq_getElem (by rw [bytesOf_length]; exact hi)]
  rfl
theorem lowL_succ (s : ByteArray) (i : Nat) (hi : i < s.size) : lowL s (i + 1) = (lowL s i).set i (low8 (bt s i)) := by
  have hl : i < (bytesOf s).length := by rw [bytesOf_length]; exact hi
  simp only [lowL]
  rw [List.take_succ_eq_append_getElem hl, List.map_append, List.drop_eq_getElem_cons hl, List.set_append_right _ _ (by simp [bytesOf_length]; omega)]
  have : i - (List.map low8 (List.take i (bytesOf s))).length = 0 := by simp [bytesOf_length]; omega
  rw [this, List.set_cons_zero, bytesOf_at s i hi, List.append_assoc]
  rfl
theorem lowL_at (s : ByteArray) (i : Nat) (hi : i < s.size) : (lowL s i).getD i 0 = bt s i := by
  have hl : i < (bytesOf s).length := by rw [bytesOf_length]; exact hi
  rw [List.getD_eq_getElem?_getD, lowL, List.getElem?_append_right (by simp; omega)]
  have : i - (List.map low8 (List.take i (bytesOf s))).length = 0 := by simp [bytesOf_length]; omega
  rw [this, List.drop_eq_getElem_cons hl, bytesOf_at s i hi]
  rfl
theorem LowRow.start (w : World) (e : TypeId) (s : ByteArray) : LowRow w (Lib.bytesWorld w e s) s 0 := by
  refine ⟨bytes_below (Below.refl _ _) (Nat.le_refl _) e s, by rw [Lib.bytesWorld_size]; omega, fun j hj => ?_, fun j hj => ?_⟩
  · rw [Lib.bytesWorld_cell w e s j hj, lowL_zero]
    have h' : j < s.data.toList.length := by rw [data_length]; exact hj
    simp [bytesOf, List.getD_eq_getElem?_getD, List.getElem?_eq_getElem h']
  · simp only [World.frozen?, Lib.bytesWorld_at_new]
    have : j < (Lib.bytesCells w e s).size := by
      simp only [Lib.bytesCells, Array.size_append, Array.size_map]
      have : s.data.size = s.size := rfl
      omega
    simp
    omega
theorem LowRow.get {w W : World} {s : ByteArray} {i : Nat} (h : LowRow w W s i) (hi : i < s.size) : W.cell? ⟨w.heap.size, i, none⟩ = some (.int .u8 (bt s i)) := by
  rw [h.2.2.1 i hi, lowL_at s i hi]
theorem LowRow.keep {w W : World} {s : ByteArray} {i : Nat} (h : LowRow w W s i) (hi : i < s.size) (hx : low8 (bt s i) = bt s i) : LowRow w W s (i + 1) := by
  refine ⟨h.1, h.2.1, fun j hj => ?_, h.2.2.2⟩
  rw [h.2.2.1 j hj, lowL_succ s i hi, hx]
  have := lowL_at s i hi
  congr 2
  by_cases e : j = i
  · subst e
    rw [this, List.getD_eq_getElem?_getD, List.getElem?_set_self (by rw [lowL_length s j (by omega)]; exact hi)]
    rfl
  · rw [List.getD_eq_getElem?_getD, List.getD_eq_getElem?_getD, List.getElem?_set_ne (Ne.symm e)]
theorem LowRow.put {w W : World} {s : ByteArray} {i : Nat} (h : LowRow w W s i) (hi : i < s.size) {x : Int} (hx : x = low8 (bt s i)) : LowRow w (W.setCell ⟨w.heap.size, i, none⟩ (.int .u8 x)) s (i + 1) := by
  subst hx
  refine ⟨h.1.setCell (Nat.le_refl _) _, by simpa using h.2.1, fun j hj => ?_, fun j hj => by rw [World.frozen?_setCell]; exact h.2.2.2 j hj⟩
  rw [lowL_succ s i hi]
  by_cases e : j = i
  · subst e
    rw [World.cell?_setCell_same _ _ _ (h.2.2.1 j hj), List.getD_eq_getElem?_getD, List.getElem?_set_self (by rw [lowL_length s j (by omega)]; exact hi)]
    rfl
  · rw [World.cell?_setCell_other _ _ _ _ (by intro hh; injection hh with _ h2; exact e h2.symm), h.2.2.1 j hj, List.getD_eq_getElem?_getD, List.getD_eq_getElem?_getD, List.getElem?_set_ne (Ne.symm e)]
theorem LowRow.drewN {w W : World} {s : ByteArray} {i : Nat} (h : LowRow w W s i) (m : Nat) : LowRow w (W.drewN m) s i := ⟨pw_below_drewN h.1 m, h.2.1, h.2.2.1, h.2.2.2⟩
theorem LowRow.back {P : Program} {w W : World} {s : ByteArray} (h : LowRow w W s s.size) (src e dst : TypeId) (cap : Nat) (hs : P.underlying src = some (.slice e)) (he : P.underlying e = some (.int .u8)) (hd : P.underlying dst = some .string) :
    (convert src dst (.slice (some ⟨w.heap.size, 0, none⟩) s.size cap)).run P W = .ok (.string (lowT s)) W :=
  run_convert_bytes_arg W src e hs he w.heap.size 0 s.size cap ((bytesOf s).map low8) (by rw [List.length_map, bytesOf_length]) (fun j hj => by rw [Nat.zero_add, h.2.2.1 j hj, lowL_all]) dst hd
/-! ### Rows of strings that are read, as the library's contracts ask for them -/
theorem addr_plain {w : World} {ad : Addr} {v : Value} (h : w.cell? ad = some v) : ∃ b o, ad = ⟨b, o, none⟩ := by
  obtain ⟨b, o, s⟩ := ad
  cases s with
  | none => exact ⟨b, o, rfl⟩
  | some x =>
    unfold World.cell? at h
    split at h
    · simp at h
    · cases h
theorem strs_cells {w : World} {A : Option Addr} {x : ByteArray} {xs : List ByteArray} (h : Kd.C Kd.string w A (x :: xs).length (x :: xs)) :
    ∃ b o, A = some ⟨b, o, none⟩ ∧ b < w.heap.size ∧ ∀ (j : Nat) y, (x :: xs)[j]? = some y → w.cell? ⟨b, o + j, none⟩ = some (.string y) := by
  obtain ⟨ad, rfl, h0⟩ := Kd.at_string h 0 (by omega) (by simp)
  have e0 : ad.add (0 : Int).toNat = ad := by unfold Addr.add; simp
  rw [e0] at h0
  obtain ⟨b, o, rfl⟩ := addr_plain h0
  refine ⟨b, o, rfl, World.block_lt_of_cell? w _ h0, fun j y hy => ?_⟩
  have hj : j < (x :: xs).length := (List.getElem?_eq_some_iff.1 hy).1
  obtain ⟨ad2, e2, h2⟩ := Kd.at_string h (j : Int) (by omega) (by omega)
  injection e2 with e2
  subst e2
  rw [Int.toNat_natCast] at h2
  have ha : (⟨b, o, none⟩ : Addr).add j = ⟨b, o + j, none⟩ := by unfold Addr.add; split <;> simp_all
  rw [ha] at h2
  rw [h2, rdOf, Int.toNat_natCast, List.getD_eq_getElem?_getD, hy]
  rfl
/-! ### Sizes as the walk spells them -/
theorem size_lit1 (a : UInt8) : (⟨#[a]⟩ : ByteArray).size = 1 := rfl
theorem size_lit2 (a b : UInt8) : (⟨#[a, b]⟩ : ByteArray).size = 2 := rfl
theorem size_lit3 (a b c : UInt8) : (⟨#[a, b, c]⟩ : ByteArray).size = 3 := rfl
/-! ### Searches, and what is struck, asked one after the other -/
def idxO {α : Type} (p : α → Option Bool) : Nat → List α → Option Int
  | _, [] => some (-1)
  | i, x :: xs => (p x).bind fun b => if b = true then some (i : Int) else idxO p (i + 1) xs
theorem anyO_idxO {α : Type} {p : α → Option Bool} : ∀ (l : List α) (i : Nat) {r : Bool}, anyO p l = some r → ∃ z : Int, idxO p i l = some z ∧ decide (0 ≤ z) = r
  | [], i, r, h => by
    obtain rfl := Option.some.inj h
    exact ⟨-1, rfl, rfl⟩
  | x :: xs, i, r, h => by
    obtain ⟨b, hb, h⟩ := Option.bind_eq_some_iff.1 h
    cases b with
    | true =>
      obtain rfl := Option.some.inj h
      exact ⟨(i : Int), by simp [idxO, hb], decide_eq_true (by omega)⟩
    | false =>
      obtain ⟨z, h1, h2⟩ := anyO_idxO xs (i + 1) h
      exact ⟨z, by simp [idxO, hb, h1], h2⟩
theorem take_C {α : Type} {k : Kd α} {w : World} {A : Option Addr} {xs : List α} {m : Nat} (h : k.C w A xs.length xs) (hm : m ≤ xs.length) : k.C w A (xs.take m).length (xs.take m) := by
  have hl : (xs.take m).length = m := by rw [List.length_take]; omega
  refine ⟨rfl, by rw [hl]; have := h.2.1; omega, fun hp => ?_⟩
  obtain ⟨ad, e, hc⟩ := h.2.2 (by omega)
  refine ⟨ad, e, fun j p hj => hc j p ?_⟩
  rw [List.getElem?_take] at hj
  split at hj
  · exact hj
  · cases hj
/-- What is left when what fulfils it is struck. -/
def delO {α : Type} (p : α → Option Bool) : List α → Option (List α)
  | [] => some []
  | x :: xs => (p x).bind fun b => (delO p xs).bind fun r => some (if b = true then r else x :: r)
theorem delO_cons {α : Type} {p : α → Option Bool} {x : α} {xs r : List α} (h : delO p (x :: xs) = some r) : ∃ b r', p x = some b ∧ delO p xs = some r' ∧ r = if b = true then r' else x :: r' := by
  obtain ⟨b, hb, h⟩ := Option.bind_eq_some_iff.1 h
  obtain ⟨r', hr, h⟩ := Option.bind_eq_some_iff.1 h
  exact ⟨b, r', hb, hr, (Option.some.inj h).symm⟩
theorem delO_idxO {α : Type} {p : α → Option Bool} : ∀ (l : List α) (s : Nat) {r : List α}, delO p l = some r →
    (idxO p s l = some (-1) ∧ r = l) ∨ ∃ i, i < l.length ∧ idxO p s l = some ((s + i : Nat) : Int) ∧ ∃ r', delO p (l.drop (i + 1)) = some r' ∧ l.take i ++ r' = r
  | [], s, r, h => by
    obtain rfl := Option.some.inj h
    exact .inl ⟨rfl, rfl⟩
  | x :: xs, s, r, h => by
    obtain ⟨b, r', hb, hr, rfl⟩ := delO_cons h
    cases b with
    | true => exact .inr ⟨0, by simp, by simp [idxO, hb], r', by simpa using hr, by simp⟩
    | false =>
      rcases delO_idxO xs (s + 1) hr with ⟨h1, rfl⟩ | ⟨i, h1, h2, r2, h3, rfl⟩
      · exact .inl ⟨by simp [idxO, hb, h1], by simp⟩
      · refine .inr ⟨i + 1, by simpa using h1, ?_, r2, by simpa using h3, by simp⟩
        simp only [idxO, hb, Option.bind_some, Bool.false_eq_true, if_false, h2]
        congr 1
        omega
theorem grown_trans {w w1 w2 : World} {x : Option Nat} (h1 : w.grownBy w1 x) (h2 : w1.grownBy w2 x) : w.grownBy w2 x :=
  ⟨h2.os.trans h1.os, h2.tape.trans h1.tape, h2.output.trans h1.output, Nat.le_trans h1.size h2.size, fun k hk hx => (h2.block k (Nat.lt_of_lt_of_le hk h1.size) hx).trans (h1.block k hk hx)⟩
theorem grown_refl (w : World) (x : Option Nat) : w.grownBy w x := ⟨rfl, rfl, rfl, Nat.le_refl _, fun _ _ _ => rfl⟩
theorem grown_below {w w1 : World} (h : Below w.heap.size w w1) (x : Option Nat) : w.grownBy w1 x := ⟨h.os, h.tape, h.output, h.size, fun k hk _ => h.block k hk⟩
end Go.Proofs.YtmehlmhpgbjddaaDoor.Q
