/- What functions of the program come to, written by a program of this session (mwprint.py); no condition. -/
import Derived.Test.YtogmkfenplihoaaQ0
import Derived.Test.YtogmkfenplihoaaQ1
namespace Go.Proofs.Ytogmkfenplihoaa.Q
open Go.RowKit Go.Proofs.YtogmkfenplihoaaV.PrintWords Go.Proofs.YtogmkfenplihoaaV.PrintLast Go.Proofs.YtogmkfenplihoaaV.PrintMore
attribute [local go_sem] max2_int min2_int max_two min_two max_three min_three max_four min_four   -- for this text's walks alone
set_option linter.unusedVariables false
set_option linter.unusedSimpArgs false

/-! ### impl_DomainsOf: function 7; Sort and Compact by the library's own contracts -/
/-! ### Rows of strings of one's own that the library writes anew -/
def bsL (l : List UInt8) : ByteArray := ⟨l.toArray⟩
def lsB (s : ByteArray) : List UInt8 := s.data.toList
theorem bsL_lsB (s : ByteArray) : bsL (lsB s) = s := rfl
theorem strs_put {w w' : World} {base g n cap : Nat} {xs ys : List ByteArray} (h : Kd.R Kd.string 9 w base (fun _ => True) (.slice (some ⟨g, 0, none⟩) n cap) xs) (hy : ys.length = xs.length)
    (hw : ∀ cs, w.heap[g]? = some (.cells cs 9 (0, 0)) → n ≤ cs.size → ∃ cs', w'.heap[g]? = some (.cells cs' 9 (0, 0)) ∧ cs'.size = cs.size ∧ cs'.toList.take n = ys.map fun s => .string s) : Kd.R Kd.string 9 w' base (fun _ => True) (.slice (some ⟨g, 0, none⟩) n cap) ys := by
  have hn : n = xs.length := (Kd.R_reads' h).1
  have ho := Kd.own_of_R h
  obtain ⟨hl, hv | ⟨g', cap', cur, hv, hb, hh, hnc, hcm, hcs, ht⟩⟩ := ho
  · cases hv.1
  injection hv with ha hn2 hc
  injection ha with ha
  injection ha with hg'
  subst hg'; subst hc
  obtain ⟨cs', h1, h2, h3⟩ := hw cur hh (by rw [hcs, Nat.mul_one]; omega)
  refine Kd.R_of_own (h1 := fun _ => rfl) (enc := Value.string) ⟨?_, .inr ⟨g, cap, cs', by rw [hy, ← hn], hb, h1, by omega, hcm, by rw [h2, hcs], ?_⟩⟩ (fun _ _ => trivial)
  · simp [encs]
  · rw [Nat.mul_one, hy, ← hn, h3]
    rfl
theorem put_take (d : Array (List UInt8)) (cs : Array Value) (n : Nat) (hn : n = d.size) (hc : n ≤ cs.size) : (Go.Sort.putCells Go.Proofs.encStr 0 d cs).toList.take n = (d.toList.map bsL).map fun s => Value.string s := by
  apply List.ext_getElem?
  intro j
  rw [List.getElem?_take, List.map_map, List.getElem?_map]
  by_cases hj : j < n
  · rw [if_pos hj]
    simp only [Go.Sort.putCells, Array.getElem?_toList, Array.getElem?_mapIdx]
    rw [Array.getElem?_eq_getElem (by omega), Array.getElem?_eq_getElem (show j < d.size by omega)]
    simp only [Option.map_some]
    rw [if_pos ⟨by omega, by omega⟩, Nat.sub_zero, getElem!_pos d j (by omega)]
    rfl
  · rw [if_neg hj, Array.getElem?_toList, Array.getElem?_eq_none (by omega)]
    rfl
/-- What Sort and Compact leave of a row of strings. -/
theorem strs_row {w : World} {base g n cap : Nat} {xs : List ByteArray} (h : Kd.R Kd.string 9 w base (fun _ => True) (.slice (some ⟨g, 0, none⟩) n cap) xs) (d : List (List UInt8)) (hd : d.length = xs.length) (m : Nat) (os : Array Obj) :
    Kd.R Kd.string 9 (Go.Sort.grow (Go.Sort.putRow Go.Proofs.encStr (Go.Sort.ahead w m) g 0 d.toArray) os) base (fun _ => True) (.slice (some ⟨g, 0, none⟩) n cap) (d.map bsL) ∧ w.grownBy (Go.Sort.grow (Go.Sort.putRow Go.Proofs.encStr (Go.Sort.ahead w m) g 0 d.toArray) os) (some g) := by
  have hn : n = xs.length := (Kd.R_reads' h).1
  have hsz : (Go.Sort.putRow Go.Proofs.encStr (Go.Sort.ahead w m) g 0 d.toArray).heap.size = w.heap.size := by rw [Go.Sort.size_putRow]; rfl
  have hlt : ∀ k o, w.heap[k]? = some o → k < w.heap.size := fun k o hk => (Array.getElem?_eq_some_iff.1 hk).1
  have hgrow : ∀ (W : World) k, k < W.heap.size → (Go.Sort.grow W os).heap[k]? = W.heap[k]? := fun W k hk => by
    simp only [Go.Sort.grow]
    rw [Array.getElem?_append_left hk]
  refine ⟨strs_put h (by rw [List.length_map, hd]) fun cs hcs hle => ⟨Go.Sort.putCells Go.Proofs.encStr 0 d.toArray cs, ?_, by simp [Go.Sort.putCells], ?_⟩, rfl, rfl, rfl, ?_, fun k hk hne => ?_⟩
  · rw [hgrow _ g (by rw [hsz]; exact hlt _ _ hcs)]
    have hcs' : (Go.Sort.ahead w m).heap[g]? = some (.cells cs 9 (0, 0)) := hcs
    simp only [Go.Sort.putRow, Go.Sort.mapBlock, Array.getElem?_modify, if_true, hcs', Option.map_some, Go.Sort.onCells]
  · exact put_take d.toArray cs n (by simpa [hd] using hn) hle
  · simp only [Go.Sort.grow, Array.size_append]
    have := hsz
    omega
  · rw [hgrow _ k (by rw [hsz]; exact hk)]
    simp only [Go.Sort.putRow, Go.Sort.mapBlock, Array.getElem?_modify]
    rw [if_neg (fun e => hne (by rw [e]))]
    rfl
theorem strs_holds {w : World} {base g n cap : Nat} {xs : List ByteArray} (h : Kd.R Kd.string 9 w base (fun _ => True) (.slice (some ⟨g, 0, none⟩) n cap) xs) : Go.Sort.Holds Go.Proofs.encStr w g 0 (xs.map lsB).toArray := by
  have hn : n = xs.length := (Kd.R_reads' h).1
  intro j hj
  have hj' : j < xs.length := by simpa using hj
  obtain ⟨h1, h2⟩ := Kd.R_celln (⟨#[]⟩ : ByteArray) h (j : Int) (by omega) (by omega)
  rw [Int.toNat_natCast] at h1 h2
  rw [Nat.zero_add]
  refine ⟨?_, h2⟩
  rw [h1, rdOf, Int.toNat_natCast, List.getD_eq_getElem?_getD, List.getElem?_eq_getElem hj', getElem!_pos _ j (by simpa using hj')]
  simp [lsB, Go.Proofs.encStr]
def srtS (l : List ByteArray) : List ByteArray := ((l.map lsB).mergeSort fun x y => decide (x ≤ y)).map bsL
def cmpS (l : List ByteArray) : List ByteArray := (Lib.compact (l.map lsB)).map bsL
theorem Sort_S.calls (base : Nat) (v : Value) (l0 : List ByteArray) (w : World) (ho : Kd.R Kd.string 9 w base (fun _ => True) v l0) (hl : l0.length < 4611686018427387904) :
    Calls Try.prog 21 #[v] w fun e w' => e = .returned (.tuple #[]) ∧ Kd.R Kd.string 9 w' base (fun _ => True) v (srtS l0) ∧ w.grownBy w' v.ownBlock := by
  cases l0 with
  | nil =>
    obtain ⟨A, c, rfl⟩ := Kd.R_slice ho
    refine (Try.slices_Sort_string_none A c w).mono fun e w' ⟨he, hw⟩ => ?_
    subst hw
    exact ⟨he, by simpa [srtS] using ho, grown_refl _ _⟩
  | cons x xs =>
    obtain ⟨g, cap, rfl, hb, hlt, _⟩ := Kd.R_form ho (by simp)
    have hh := strs_holds ho
    have hc := Try.slices_Sort_string g 0 cap ((x :: xs).map lsB) w hh hlt (by rw [List.length_map]; exact hl)
    rw [List.length_map] at hc
    refine hc.mono fun e w' ⟨he, n, os, hw⟩ => ?_
    subst hw
    exact ⟨he, strs_row ho (((x :: xs).map lsB).mergeSort fun x y => decide (x ≤ y)) (by rw [List.length_mergeSort, List.length_map]) n os⟩
theorem compact_le (l : List (List UInt8)) : (Lib.compact l).length ≤ l.length := by
  unfold Lib.compact Lib.compactUpTo
  rw [List.length_map]
  exact Nat.le_trans (List.length_filter_le _ _) (by simp)
theorem Compact_S.calls (base : Nat) (v : Value) (l0 : List ByteArray) (w : World) (ho : Kd.R Kd.string 9 w base (fun _ => True) v l0) :
    Calls Try.prog 22 #[v] w fun e w' => ∃ v0_ : Value, e = .returned v0_ ∧ Kd.R Kd.string 9 w' base (fun _ => True) v0_ (cmpS l0) ∧ w.grownBy w' v.ownBlock := by
  cases l0 with
  | nil =>
    obtain ⟨A, c, rfl⟩ := Kd.R_slice ho
    refine (Try.slices_Compact_string_empty A c w).mono fun e w' ⟨he, hw⟩ => ?_
    subst hw
    exact ⟨_, he, ho, grown_refl _ _⟩
  | cons x xs =>
    have hmax : (x :: xs).length ≤ 9223372036854775807 := by
      obtain ⟨A, c, e, hc, hC⟩ := Kd.R_reads ho
      exact Kd.C_max hC
    obtain ⟨g, cap, rfl, hb, hlt, _⟩ := Kd.R_form ho (by simp)
    have hh := strs_holds ho
    have hcap : (x :: xs).length ≤ cap := (Kd.R_reads' ho).2.1
    have hc := Try.slices_Compact_string g 0 cap ((x :: xs).map lsB) w hh (by rw [List.length_map]; exact hmax) (by rw [List.length_map]; exact hcap)
    rw [List.length_map] at hc
    refine hc.mono fun e w' ⟨he, q, hw⟩ => ?_
    subst hw
    have hle := compact_le ((x :: xs).map lsB)
    rw [List.length_map] at hle
    obtain ⟨h1, h2⟩ := strs_row ho (Lib.compact ((x :: xs).map lsB) ++ List.replicate ((x :: xs).length - (Lib.compact ((x :: xs).map lsB)).length) []) (by rw [List.length_append, List.length_replicate]; omega) q #[]
    rw [Go.Sort.grow_empty] at h1 h2
    refine ⟨_, he, ?_, h2⟩
    have h3 := Kd.R_take h1 (m := (Lib.compact ((x :: xs).map lsB)).length) (by rw [List.length_map, List.length_append]; omega)
    rw [← List.map_take, List.take_left] at h3
    exact h3
def impl_DomainsOf.l0 : Nat → List S31 → List ByteArray → Nat → Option (List ByteArray)
  | 0, _, _, _ => none
  | k + 1, l, out, i => if i < l.length then (impl_LowerText.f (rd_T31 l (i : Int)).f2).bind fun t => (if out.length < 8796093022208 then impl_DomainsOf.l0 k l (out ++ [t]) (i + 1) else none) else some out
def impl_DomainsOf.f (l0 : List S31) : Option (List ByteArray) := (impl_DomainsOf.l0 (l0.length + 1) l0 [] 0).bind fun t => if t.length < 4611686018427387904 then some (cmpS (srtS t)) else none
set_option maxHeartbeats 4000000 in
set_option maxRecDepth 100000 in
theorem impl_DomainsOf.calls (A0 : Option Addr) (c0 : Nat) (l0 : List S31) (r : List ByteArray) (w : World) (hr0 : Kd.C k31 w A0 l0.length l0) (hc0 : l0.length ≤ c0) (h : impl_DomainsOf.f l0 = some r) :
    Calls Try.prog 7 #[.slice A0 l0.length c0] w fun e w' => ∃ v0_ : Value, e = .returned (v0_) ∧ Kd.R Kd.string 9 w' w.heap.size (fun _ => True) v0_ r ∧ Below w.heap.size w w' := by
  have hu31 := Try.underlying31
  have hbig : l0.length ≤ 9223372036854775807 := Kd.C_max hr0
  have HR0 := Aside0.mk hr0
  clear hr0
  have HB := Aside0.mk (Below.refl w.heap.size w)
  obtain ⟨t0, hl0, hf0⟩ := Option.bind_eq_some_iff.1 h
  have hz0 : t0.length < 4611686018427387904 ∧ cmpS (srtS t0) = r := by
    by_cases c : t0.length < 4611686018427387904
    · rw [if_pos c] at hf0
      exact ⟨c, Option.some.inj hf0⟩
    · rw [if_neg c] at hf0
      cases hf0
  have HZ := Aside0.mk hz0
  clear hz0 hf0
  have H' := Aside0.mk (show impl_DomainsOf.l0 (l0.length + 1) l0 [] 0 = some t0 from hl0)
  clear h hl0
  go_enter Try.func7, Try.ntmps7
  go_wp2_with (first | ((with_reducible refine gate_dst (N := 6) rfl ?_); refine Kd.R_lit Kd.string _ 9 ?hg (N := 6) ?hd (xs := ([] : List ByteArray)) (inner := []) (ok := fun _ => True) (okp := fun _ => True) ?hr ?hp (fun _ hk => hk) trivial (Below.refl _ _) (Nat.le_refl _) (by simp) ?_; (case hd => rfl); (case hg => rfl); (case hr => first | (go_simp; done) | (go_simp; rfl)); (case hp => exact (Reps.none _ _)); intro v222 w3 ho4 hb hg_ hnew_; clear hg_ hnew_; have HO := Aside0.mk ho4; have HB1 := Aside0.mk hb; clear hb ho4 HB))
  go_loopg [3, 5, 9] (l0.length + 1) (fun kq v3 _ v9 w' => ∃ (out : List ByteArray) (i : Nat), v9 = .int .i64 i ∧ Aside0 (i ≤ l0.length) ∧ Aside0 (impl_DomainsOf.l0 kq l0 out i = some t0) ∧ Aside0 (kq ≤ l0.length + 1) ∧ Aside0 (Kd.R Kd.string 9 w' w.heap.size (fun _ => True) v3 out) ∧ Aside0 (Below w.heap.size w w'))
  case atStart => exact ⟨[], 0, rfl, ⟨Nat.zero_le _⟩, H', ⟨Nat.le_refl _⟩, HO, HB1⟩
  case round =>
    clear H' HO HB1
    obtain ⟨out, i, rfl, HI, HA, HK1, HO, HB⟩ := hrel
    cases gk with
    | zero => exact absurd HA.out (by simp [impl_DomainsOf.l0])
    | succ k1 =>
      have H := HA.out
      clear HA
      simp only [impl_DomainsOf.l0] at H
      by_cases c2 : i < l0.length
      · rw [if_pos c2] at H
        obtain ⟨t, A0_, H⟩ := Option.bind_eq_some_iff.1 H
        by_cases c3 : out.length < 8796093022208
        · rw [if_pos c3] at H
          have hlt : (i : Int) < (l0.length : Int) := by omega
          obtain ⟨ad, ead, hx0, hx1, hx2⟩ := at_T31 HR0.out (i : Int) (by omega) (by omega)
          cases ead
          replace hx0 := (HB.out.cell (World.block_lt_of_cell? w _ hx0)).trans hx0
          replace hx1 := (HB.out.cell (World.block_lt_of_cell? w _ hx1)).trans hx1
          replace hx2 := (HB.out.cell (World.block_lt_of_cell? w _ hx2)).trans hx2
          simp only [Int.toNat_natCast] at hx0 hx1 hx2
          have HT := Aside0.mk A0_
          clear A0_
          generalize rd_T31 l0 (i : Int) = y at hx0 hx1 hx2 HT
          have H' := Aside0.mk H
          clear H
          obtain ⟨Ao, co, eo⟩ := Kd.R_slice HO.out
          subst eo
          go_wp2_with (first | ((with_reducible refine gate_dst (N := 5) rfl ?_); refine box_event ?hg (N := 5) ?hd (cs := #[.string ⟨#[]⟩, .string ⟨#[]⟩, .string ⟨#[]⟩]) (t := 31) ?hr ?_; (case hd => rfl); (case hg => rfl); (case hr => first | (go_simp; done) | (go_simp; rfl)); intro gb hgb w1 hbox hb1; have hc0 := (blk_cell hbox 0); have hc1 := (blk_cell hbox 1); have hc2 := (blk_cell hbox 2); have fz0 := blk_frozen hbox 0; have fz1 := blk_frozen hbox 1; have fz2 := blk_frozen hbox 2; have HX := Aside0.mk hbox; have HG := Aside0.mk (Nat.le_of_eq hgb.symm); have HB1 := Aside0.mk hb1; clear hb1 hbox hgb; simp only [List.getElem?_toArray, List.getElem?_cons_zero, List.getElem?_cons_succ] at hc0 hc1 hc2) | ((with_reducible refine gate_store (t := 31) (p := 5) rfl ?_); refine store_event (t := 31) (p := 5) (v := ?vo) (w1 := (((w1.setCell ⟨gb, 0, none⟩ (.string y.f0)).setCell ⟨gb, 1, none⟩ (.string y.f1)).setCell ⟨gb, 2, none⟩ (.string y.f2))) ?hg ?ho ?hn ?hr ?_; (case ho => rfl); (case hg => rfl); (case hn => rfl); (case hr => first | (go_simp; done) | (go_simp; rfl)); intro w2 hw; have hb2 : Below wr.heap.size wr w2 := (by rw [hw]; exact below_set (below_set (below_set HB1.out HG.out) HG.out) HG.out); have HX2 := Aside0.mk (show w2.heap[gb]? = some (.cells #[.string y.f0, .string y.f1, .string y.f2] 31 (0, 0)) from (by rw [hw]; exact blk_put (blk_put (blk_put HX.out 0 _ rfl) 1 _ rfl) 2 _ rfl)); have HB2 := Aside0.mk hb2; have hd2 := blk_cell HX2.out 2; simp only [List.getElem?_toArray, List.getElem?_cons_zero, List.getElem?_cons_succ] at hd2; clear hw hb2 HX HG HB1 hc0 hc1 hc2 fz0 fz1 fz2) | (go_at_call 20; refine (impl_LowerText.calls y.f2 t _ HT.out).mono ?_; rintro e w3 ⟨rfl, hb3⟩; have HB3 := Aside0.mk hb3; clear hb3) | ((with_reducible refine gate_builtin (b := .append) (xs := #[.tmp 13, .tmp 17]) rfl ?_); at_builtin; refine Kd.R_append Kd.string (w0 := w) w.heap.size rfl (.tmp 13) (.tmp 17) 25 9 (.string ⟨#[]⟩) 16 rfl Try.underlying25 info9 rfl (by decide) (by omega) (.slice Ao out.length co) out t [.string t] (fun _ => True) (fun _ => False) rfl rfl ?aP (fun _ hk => hk.elim) ?aF ?aO ?aB ?aS ?aL ?_; (case aP => exact rfl); (case aB => exact (by repeat (first | (with_reducible first | exact below_step (below_step HB.out HB2.out) HB3.out | apply below_alloc | apply pw_below_drewN | apply below_drew1) | exact below_step (below_step HB.out HB2.out) HB3.out))); (case aF => exact (fun _ _ => trivial)); (case aO => exact (by (with_reducible repeat (first | apply Kd.R_alloc | apply Kd.R_drewN | apply Kd.R_drew)); exact Kd.R_below (Kd.R_below HO.out HB2.out) HB3.out)); (case aS => exact (below_size (by repeat (first | (with_reducible first | exact below_step (below_step HB.out HB2.out) HB3.out | apply below_alloc | apply pw_below_drewN | apply below_drew1) | exact below_step (below_step HB.out HB2.out) HB3.out)))); (case aL => omega); intro v4 w4 ho4 hb4 hg4 hat4; clear hg4 hat4))
          go_roundg k1
          case measure => have := HK1.out; omega
          case rel => exact ⟨out ++ [t], i + 1, by go_num, ⟨by omega⟩, H', ⟨by have := HK1.out; omega⟩, ⟨ho4⟩, ⟨hb4⟩⟩
        · rw [if_neg c3] at H
          exact absurd H (by simp)
      · rw [if_neg c2] at H
        obtain rfl := Option.some.inj H
        have hlt : ¬ (i : Int) < (l0.length : Int) := by omega
        go_wp2_with (first | (go_at_call 21; refine (Sort_S.calls _ _ out wr HO.out HZ.out.1).mono ?_; rintro e w5 ⟨rfl, ho5, hg5⟩; have HO5 := Aside0.mk ho5; have HG5 := Aside0.mk hg5; clear ho5 hg5) | (go_at_call 22; refine (Compact_S.calls _ _ (srtS out) w5 HO5.out).mono ?_; rintro e w6 ⟨v6, rfl, ho6, hg6⟩))
        go_ret
        refine ⟨_, rfl, by rw [← HZ.out.2]; exact ho6, ?_⟩
        have hg := grown_trans HG5.out hg6
        exact ⟨hg.os.trans HB.out.os, hg.tape.trans HB.out.tape, hg.output.trans HB.out.output, Nat.le_trans HB.out.size hg.size, fun k hk => (hg.block k (Nat.lt_of_lt_of_le hk HB.out.size) (fun e => absurd (Kd.R_base HO.out k e.symm) (Nat.not_le_of_lt hk))).trans (HB.out.block k hk)⟩

end Go.Proofs.Ytogmkfenplihoaa.Q
