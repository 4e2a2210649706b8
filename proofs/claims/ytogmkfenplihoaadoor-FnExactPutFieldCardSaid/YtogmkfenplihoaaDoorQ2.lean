/- What functions of the program come to, written by a program of this session (mwprint.py); no condition. -/
import Derived.Test.YtogmkfenplihoaaDoorQ0
import Derived.Test.YtogmkfenplihoaaDoorQ1
namespace Go.Proofs.YtogmkfenplihoaaDoor.Q
open Go.RowKit Go.Proofs.YtogmkfenplihoaaDoorV.PrintWords Go.Proofs.YtogmkfenplihoaaDoorV.PrintLast Go.Proofs.YtogmkfenplihoaaDoorV.PrintMore
attribute [local go_sem] max2_int min2_int max_two min_two max_three min_three max_four min_four   -- for this text's walks alone
set_option linter.unusedVariables false
set_option linter.unusedSimpArgs false

attribute [local go_sem high] eqA25
/-! ### slices_Clone_impl_Field_impl_Field: function 29 -/
def slices_Clone_impl_Field_impl_Field.f (l0 : List S25) : Option (List S25) := if l0.length < 4398046511104 then some l0 else none
set_option maxHeartbeats 2000000 in
theorem slices_Clone_impl_Field_impl_Field.calls (A0 : Option Addr) (c0 : Nat) (l0 : List S25) (r : List S25) (w : World) (hr0 : Kd.C k25 w A0 l0.length l0) (hc0 : l0.length ≤ c0) (h : slices_Clone_impl_Field_impl_Field.f l0 = some r) :
    Calls Tryd.prog 29 #[.slice A0 l0.length c0] w fun e w' => ∃ v0_ : Value, e = .returned (v0_) ∧ Kd.R k25 25 w' w.heap.size (fun _ => True) v0_ r ∧ Below w.heap.size w w' := by
  have hu25 := Tryd.underlying25
  unfold slices_Clone_impl_Field_impl_Field.f at h
  by_cases hl : l0.length < 4398046511104
  · rw [if_pos hl] at h
    obtain rfl := Option.some.inj h
    clear h
    cases A0 with
    | none =>
      have hz : l0 = [] := by
        cases l0 with
        | nil => rfl
        | cons x xs =>
          obtain ⟨ad, e, _⟩ := hr0.2.2 (by simp)
          cases e
      subst hz
      clear hr0
      go_enter Tryd.func29, Tryd.ntmps29
      have q1 : (binOp .eql 23 (.slice none 0 c0) (.slice none 0 0)).run Tryd.prog w = .ok (.bool true) w := Lib.run_eql_slice_nil w _ _ none _ _ _ _ Tryd.underlying23
      go_wp2
      go_ret
      exact ⟨_, rfl, Kd.R_nil _ _ _ _ _, Below.refl _ _⟩

    | some ad =>
      have q1 : (binOp .eql 23 (.slice (some ad) l0.length c0) (.slice none 0 0)).run Tryd.prog w = .ok (.bool false) w := Lib.run_eql_slice_nil w _ _ (some ad) _ _ _ _ Tryd.underlying23
      have HR0 := Aside0.mk hr0
      clear hr0
      go_enter Tryd.func29, Tryd.ntmps29
      go_wp2_with (first | ((with_reducible refine gate_dst (N := 5) rfl ?_); refine Kd.R_lit k25 _ 25 ?hg (N := 5) ?hd (xs := ([] : List (S25))) (inner := []) (ok := fun _ => True) (okp := fun _ => True) ?hr ?hp (fun _ hk => hk) trivial (Below.refl _ _) (Nat.le_refl _) (by simp) ?_; (case hd => rfl); (case hg => rfl); (case hr => first | (go_simp; done) | (go_simp; rfl)); (case hp => exact (Reps.none _ _)); intro v1 w1 ho1 hb1 hg_ hnew_; clear hg_ hnew_; have HO := Aside0.mk ho1; have HB := Aside0.mk hb1; clear hb1 ho1) | ((with_reducible refine gate_builtin (b := .append) (xs := #[.tmp 5, .tmp 6]) rfl ?_); at_builtin; refine Kd.R_append_rows k25 (w0 := w) w.heap.size rfl (.tmp 5) (.tmp 6) 23 25 (.agg #[(.string ⟨#[]⟩), (.string ⟨#[]⟩)]) 32 rfl Tryd.underlying23 info25 rfl (by decide) (by omega) v1 [] l0 _ _ _ (fun _ => True) (fun _ => False) rfl rfl ?aO ?aR (fun _ _ h => h) (fun _ h => h.elim) ?aF ?aB ?aS ?aL ?_; (case aR => exact Kd.C_below HR0.out HB.out); (case aB => exact HB.out); (case aF => exact (fun _ _ => trivial)); (case aO => exact HO.out); (case aS => exact HB.out.size); (case aL => simp only [List.length_nil]; omega); intro v2 w2 ho2 hb2 hg2 hat2; clear hg2 hat2; rw [List.nil_append] at ho2))
      go_ret
      exact ⟨_, rfl, ho2, hb2⟩

  · rw [if_neg hl] at h
    exact absurd h (by simp)

/-! ### slices_IndexFunc_impl_Field_impl_Field: function 46 at any function value -/
def slices_IndexFunc_impl_Field_impl_Field.f (p : S25 → Option Bool) (l0 : List S25) : Option Int := idxO p 0 l0
/-- What is asked of a function value over such a struct: it gives p's answer, and leaves what lay there. -/
def slices_IndexFunc_impl_Field_impl_Field.Asks (p : S25 → Option Bool) (g : Nat) (lb : Array Value) (w : World) : Prop := ∀ (W : World) (x : S25) b, Below w.heap.size w W → p x = some b → Calls Tryd.prog g (#[.agg #[.string x.f0, .string x.f1]] ++ lb) W fun e w' => e = .returned (.bool b) ∧ Below W.heap.size W w'
set_option maxHeartbeats 2000000 in
theorem slices_IndexFunc_impl_Field_impl_Field.calls (p : S25 → Option Bool) (g : Nat) (lb : Array Value) (eg : ∀ args w, (callFunc g args).run Tryd.prog w = .ok (.enter g args) w) (A0 : Option Addr) (c0 : Nat) (l0 : List S25) (r : Int) (w : World)
    (hp : slices_IndexFunc_impl_Field_impl_Field.Asks p g lb w)
    (hr0 : Kd.C k25 w A0 l0.length l0) (h : slices_IndexFunc_impl_Field_impl_Field.f p l0 = some r) :
    Calls Tryd.prog 46 #[.slice A0 l0.length c0, .func (.func g) #[] lb] w fun e w' => e = .returned (.int .i64 r) ∧ Below w.heap.size w w' := by
  have hu25 := Tryd.underlying25
  have hbig : l0.length ≤ 9223372036854775807 := Kd.C_max hr0
  have HR0 := Aside0.mk hr0
  have HP := Aside0.mk hp
  clear hr0 hp
  have H' := Aside0.mk (show idxO p 0 (l0.drop 0) = some r from h)
  clear h
  have HB0 := Aside0.mk (Below.refl w.heap.size w)
  go_enter Tryd.func46, Tryd.ntmps46
  go_wp2
  go_loopg [5, 8] l0.length (fun gg _ v w' => ∃ i : Nat, i ≤ l0.length ∧ l0.length - i ≤ gg ∧ v = .int .i64 i ∧ Aside0 (idxO p i (l0.drop i) = some r) ∧ Aside0 (Below w.heap.size w w'))
  case atStart => exact ⟨0, Nat.zero_le _, by omega, rfl, H', HB0⟩
  case round =>
    clear H' HB0
    obtain ⟨i, hi, hg, rfl, HA, HB⟩ := hrel
    by_cases c2 : i < l0.length
    · have H := HA.out
      clear HA
      rw [List.drop_eq_getElem_cons c2, idxO] at H
      have e1 : l0[i] = rd_T25 l0 (i : Int) := by
        rw [rd_T25, Int.toNat_natCast, List.getD_eq_getElem?_getD, List.getElem?_eq_getElem c2]
        rfl
      rw [e1] at H
      clear e1
      obtain ⟨b, hb, H⟩ := Option.bind_eq_some_iff.1 H
      have hlt : (i : Int) < (l0.length : Int) := by omega
      obtain ⟨ad, ead, hx0, hx1⟩ := at_T25 HR0.out (i : Int) (by omega) (by omega)
      cases ead
      replace hx0 := (HB.out.cell (World.block_lt_of_cell? w _ hx0)).trans hx0
      replace hx1 := (HB.out.cell (World.block_lt_of_cell? w _ hx1)).trans hx1
      simp only [Int.toNat_natCast] at hx0 hx1
      have hcall := HP.out _ (rd_T25 l0 (i : Int)) b HB.out hb
      clear hb
      generalize rd_T25 l0 (i : Int) = y at hx0 hx1 hcall
      cases b with
      | true =>
        rw [if_pos rfl] at H
        obtain rfl := Option.some.inj H
        clear H
        go_wp2_with (go_at_fn g; refine hcall.mono ?_; rintro e w' ⟨rfl, hb'⟩)
        go_ret
        exact ⟨rfl, below_step HB.out hb'⟩
      | false =>
        rw [if_neg (by decide)] at H
        have H' := Aside0.mk H
        clear H
        go_wp2_with (go_at_fn g; refine hcall.mono ?_; rintro e w' ⟨rfl, hb'⟩)
        go_roundg (l0.length - (i + 1))
        case measure => omega
        case rel => exact ⟨i + 1, by omega, by omega, by go_num, H', ⟨below_step HB.out hb'⟩⟩
    · have H := HA.out
      clear HA
      have hlt : ¬ (i : Int) < (l0.length : Int) := by omega
      rw [List.drop_eq_nil_of_le (by omega), idxO] at H
      obtain rfl := Option.some.inj H
      clear H
      go_wp2
      go_ret
      exact ⟨rfl, HB.out⟩

/-! ### slices_ContainsFunc_impl_Field_impl_Field: function 51 at any function value -/
def slices_ContainsFunc_impl_Field_impl_Field.f (p : S25 → Option Bool) (l0 : List S25) : Option Bool := anyO p l0
theorem slices_ContainsFunc_impl_Field_impl_Field.calls (p : S25 → Option Bool) (g : Nat) (lb : Array Value) (eg : ∀ args w, (callFunc g args).run Tryd.prog w = .ok (.enter g args) w) (A0 : Option Addr) (c0 : Nat) (l0 : List S25) (r : Bool) (w : World)
    (hp : slices_IndexFunc_impl_Field_impl_Field.Asks p g lb w) (hr0 : Kd.C k25 w A0 l0.length l0) (h : slices_ContainsFunc_impl_Field_impl_Field.f p l0 = some r) :
    Calls Tryd.prog 51 #[.slice A0 l0.length c0, .func (.func g) #[] lb] w fun e w' => e = .returned (.bool r) ∧ Below w.heap.size w w' := by
  obtain ⟨z, hz, hr⟩ := anyO_idxO l0 0 h
  have hcall := slices_IndexFunc_impl_Field_impl_Field.calls p g lb eg A0 c0 l0 z w hp hr0 hz
  clear hp hr0 h hz
  go_enter Tryd.func51, Tryd.ntmps51
  go_wp2_with (go_at_call 46; refine hcall.mono ?_; rintro e w' ⟨rfl, hb'⟩)
  go_ret
  exact ⟨by rw [← hr]; first | rfl | simp, hb'⟩

/-! ### slices_DeleteFunc_impl_Field_impl_Field: function 57 at any function value -/
theorem R_zeros {gb cap base : Nat} : ∀ (m i : Nat) (W : World) (xs : List S25), Kd.R k25 25 W base (fun _ => True) (.slice (some ⟨gb, 0, none⟩) xs.length cap) xs → i + m ≤ xs.length →
    ∃ ys, Kd.R k25 25 (W.setCells gb (i * 2) (List.replicate (m * 2) (.string ⟨#[]⟩))) base (fun _ => True) (.slice (some ⟨gb, 0, none⟩) xs.length cap) ys ∧ ys.length = xs.length ∧ ys.take i = xs.take i ∧ W.grownBy (W.setCells gb (i * 2) (List.replicate (m * 2) (.string ⟨#[]⟩))) (some gb)
  | 0, i, W, xs, h, hi => by
    simp only [Nat.zero_mul, List.replicate_zero]
    exact ⟨xs, h, rfl, rfl, grown_refl _ _⟩
  | m + 1, i, W, xs, h, hi => by
    obtain ⟨c, hcl, hM, hcc, hf⟩ := Kd.R_elem h z25 (i : Int) (by omega) (by omega)
    obtain ⟨h1, g1⟩ := Kd.R_seg h (i : Int) (by omega) (by omega) (seg := [.string ⟨#[]⟩, .string ⟨#[]⟩]) (j := 0) (x' := z25) (okp := fun _ => False) hcl hcc (by show 0 + 2 ≤ 2; omega) (by
      have : c.drop 2 = [] := List.drop_eq_nil_of_le (by rw [hcl]; exact Nat.le_refl _)
      show k25.M W base (fun _ => False) z25 (c.take 0 ++ [.string ⟨#[]⟩, .string ⟨#[]⟩] ++ c.drop (0 + 2))
      rw [Nat.zero_add, this]
      exact k25_mkM W base _ z25) (fun _ hk => hk.elim)
    have e0 : (i : Int).toNat * k25.sz + 0 = i * 2 := by rw [Int.toNat_natCast]; rfl
    rw [e0, Int.toNat_natCast] at h1
    rw [e0] at g1
    have hl : (xs.set i z25).length = xs.length := List.length_set
    rw [← hl] at h1
    obtain ⟨ys, h2, l2, t2, g2⟩ := R_zeros m (i + 1) _ (xs.set i z25) h1 (by rw [hl]; omega)
    have e1 : (i + 1) * 2 = i * 2 + 1 + 1 := by omega
    have e2 : (m + 1) * 2 = m * 2 + 1 + 1 := by omega
    rw [e1] at h2 g2
    rw [e2, List.replicate_succ, List.replicate_succ]
    refine ⟨ys, by rw [hl] at h2; exact h2, by rw [l2, hl], ?_, grown_trans g1 g2⟩
    have : (ys.take (i + 1)).take i = ((xs.set i z25).take (i + 1)).take i := by rw [t2]
    rw [List.take_take, List.take_take, Nat.min_eq_left (by omega)] at this
    rw [this, List.take_set_of_le (Nat.le_refl _)]
theorem elemF {gb n cap base : Nat} {W : World} {xs : List S25} (h : Kd.R k25 25 W base (fun _ => True) (.slice (some ⟨gb, 0, none⟩) n cap) xs) (j : Nat) (hj : j < xs.length) :
    W.cell? ⟨gb, j * 2, none⟩ = some (.string xs[j].f0) ∧ W.cell? ⟨gb, j * 2 + 1, none⟩ = some (.string xs[j].f1) ∧ W.frozen? ⟨gb, j * 2, none⟩ = false ∧ W.frozen? ⟨gb, j * 2 + 1, none⟩ = false := by
  have hn : n = xs.length := (Kd.R_reads' h).1
  obtain ⟨c, hcl, hM, hcc, hf⟩ := Kd.R_elem h z25 (j : Int) (by omega) (by omega)
  have hc : c = [.string xs[j].f0, .string xs[j].f1] := by
    have := k25_openM hM
    rw [Int.toNat_natCast, List.getD_eq_getElem?_getD, List.getElem?_eq_getElem hj] at this
    exact this
  subst hc
  have e0 : (j : Int).toNat * k25.sz = j * 2 := by rw [Int.toNat_natCast]; rfl
  rw [e0] at hcc hf
  exact ⟨hcc 0 _ rfl, hcc 1 _ rfl, hf 0, hf 1⟩
theorem putF {gb n cap base : Nat} {W : World} {xs : List S25} (h : Kd.R k25 25 W base (fun _ => True) (.slice (some ⟨gb, 0, none⟩) n cap) xs) (i : Nat) (hi : i < xs.length) (x : S25) :
    Kd.R k25 25 ((W.setCell ⟨gb, i * 2, none⟩ (.string x.f0)).setCell ⟨gb, i * 2 + 1, none⟩ (.string x.f1)) base (fun _ => True) (.slice (some ⟨gb, 0, none⟩) n cap) (xs.set i x) ∧ W.grownBy ((W.setCell ⟨gb, i * 2, none⟩ (.string x.f0)).setCell ⟨gb, i * 2 + 1, none⟩ (.string x.f1)) (some gb) := by
  have hn : n = xs.length := (Kd.R_reads' h).1
  obtain ⟨c, hcl, hM, hcc, hf⟩ := Kd.R_elem h z25 (i : Int) (by omega) (by omega)
  obtain ⟨h1, g1⟩ := Kd.R_seg h (i : Int) (by omega) (by omega) (seg := [.string x.f0, .string x.f1]) (j := 0) (x' := x) (okp := fun _ => False) hcl hcc (by show 0 + 2 ≤ 2; omega) (by
    have : c.drop 2 = [] := List.drop_eq_nil_of_le (by rw [hcl]; exact Nat.le_refl _)
    show k25.M W base (fun _ => False) x (c.take 0 ++ [.string x.f0, .string x.f1] ++ c.drop (0 + 2))
    rw [Nat.zero_add, this]
    exact k25_mkM W base _ x) (fun _ hk => hk.elim)
  have e0 : (i : Int).toNat * k25.sz + 0 = i * 2 := by rw [Int.toNat_natCast]; rfl
  rw [e0, Int.toNat_natCast] at h1
  rw [e0] at g1
  exact ⟨h1, g1⟩
/-- 'clear' over the end of a row of such structs. -/
theorem clearF {gb n cap base : Nat} {W : World} {xs : List S25} (h : Kd.R k25 25 W base (fun _ => True) (.slice (some ⟨gb, 0, none⟩) n cap) xs) (i m c : Nat) (hi : i + m = xs.length) (hm : 0 < m) (ty : TypeId) :
    (Builtin.clear_ #[23] ty #[.slice (some ⟨gb, i * 2, none⟩) m c]).run Tryd.prog W = .ok (.tuple #[]) (W.setCells gb (i * 2) (List.replicate (m * 2) (.string ⟨#[]⟩))) := by
  have hv : ∀ w, (zeroValue 25).run Tryd.prog w = .ok (.agg #[.string ⟨#[]⟩, .string ⟨#[]⟩]) w := fun w => by first | kernel_rfl | rfl
  have hz : (Builtin.zeroCells (Value.agg #[.string ⟨#[]⟩, .string ⟨#[]⟩]).cells m).toList = List.replicate (m * 2) (.string ⟨#[]⟩) := by
    simp only [Builtin.zeroCells, Value.cells]
    apply List.ext_getElem
    · simp
    · intro k h1 h2
      have : k % 2 = 0 ∨ k % 2 = 1 := by omega
      rcases this with h | h <;> simp [h]
  have hst := run_storeCells_cells (P := Tryd.prog) gb (i * 2) (List.replicate (m * 2) (.string ⟨#[]⟩)) 0 W (by
      intro j hj
      rw [List.length_replicate] at hj
      obtain ⟨q1, q2, _, _⟩ := elemF h (i + j / 2) (by omega)
      have : j % 2 = 0 ∨ j % 2 = 1 := by omega
      rcases this with e | e
      · rw [show i * 2 + 0 + j = (i + j / 2) * 2 by omega, q1]; rfl
      · rw [show i * 2 + 0 + j = (i + j / 2) * 2 + 1 by omega, q2]; rfl) (by
      intro j hj
      rw [List.length_replicate] at hj
      obtain ⟨_, _, q1, q2⟩ := elemF h (i + j / 2) (by omega)
      have : j % 2 = 0 ∨ j % 2 = 1 := by omega
      rcases this with e | e
      · rw [show i * 2 + 0 + j = (i + j / 2) * 2 by omega, q1]
      · rw [show i * 2 + 0 + j = (i + j / 2) * 2 + 1 by omega, q2]) (by intro v hv'; rw [List.eq_of_mem_replicate hv']; rfl)
  simp only [Nat.add_zero] at hst
  obtain ⟨m', rfl⟩ : ∃ m', m = m' + 1 := ⟨m - 1, by omega⟩
  simp [Builtin.clear_, run_underlying Tryd.underlying23, hv, hz, hst]
def slices_DeleteFunc_impl_Field_impl_Field.f (p : S25 → Option Bool) (l0 : List S25) : Option (List S25) := delO p l0
def slices_DeleteFunc_impl_Field_impl_Field.Asks (p : S25 → Option Bool) (g : Nat) (lb : Array Value) (w : World) (v : Value) : Prop := ∀ (W : World) (x : S25) b, w.grownBy W v.ownBlock → p x = some b → Calls Tryd.prog g (#[.agg #[.string x.f0, .string x.f1]] ++ lb) W fun e w' => e = .returned (.bool b) ∧ Below W.heap.size W w'
set_option maxHeartbeats 8000000 in
set_option maxRecDepth 100000 in
theorem slices_DeleteFunc_impl_Field_impl_Field.calls (p : S25 → Option Bool) (g : Nat) (lb : Array Value) (eg : ∀ args w, (callFunc g args).run Tryd.prog w = .ok (.enter g args) w) (base : Nat) (v : Value) (l0 : List S25) (r : List S25) (w : World)
    (hp : slices_DeleteFunc_impl_Field_impl_Field.Asks p g lb w v) (ho : Kd.R k25 25 w base (fun _ => True) v l0) (h : slices_DeleteFunc_impl_Field_impl_Field.f p l0 = some r) :
    Calls Tryd.prog 57 #[v, .func (.func g) #[] lb] w fun e w' => ∃ v0_ : Value, e = .returned (v0_) ∧ Kd.R k25 25 w' base (fun _ => True) v0_ r ∧ w.grownBy w' v.ownBlock := by
  have hu25 := Tryd.underlying25
  have hI : ∀ z, idxO p 0 l0 = some z → ∃ A c, v = .slice A l0.length c ∧ Calls Tryd.prog 46 #[.slice A l0.length c, .func (.func g) #[] lb] w fun e w' => e = .returned (.int .i64 z) ∧ Below w.heap.size w w' := by
    intro z hz
    obtain ⟨A, c, e, hc, hC⟩ := Kd.R_reads ho
    exact ⟨A, c, e, slices_IndexFunc_impl_Field_impl_Field.calls p g lb eg A c l0 z w (fun W x b hb hx => by
      have := hp W x b (grown_below hb _) hx
      exact this) hC hz⟩
  rcases delO_idxO l0 0 h with ⟨hz, rfl⟩ | ⟨i0, hi0, hz, r0, hr0, hcat⟩
  · obtain ⟨A, c, rfl, hcall⟩ := hI _ hz
    have HO := Aside0.mk ho
    clear hI hz h hp ho
    go_enter Tryd.func57, Tryd.ntmps57
    go_wp2_with (go_at_call 46; refine hcall.mono ?_; rintro e w' ⟨rfl, hb'⟩)
    go_ret
    exact ⟨_, rfl, Kd.R_below HO.out hb', grown_below hb' _⟩
  · obtain ⟨A, c, ev, hcall⟩ := hI _ hz
    obtain ⟨gb, cap, ev2, hbase, hlt, _⟩ := Kd.R_form ho (by omega)
    rw [ev2] at ev
    injection ev with e1 e2 e3
    subst e1 e3
    subst ev2
    rw [Nat.zero_add] at hcall
    have hcap : l0.length ≤ cap := (Kd.R_reads' ho).2.1
    have hmax : l0.length ≤ 9223372036854775807 := Kd.C_max (Kd.R_reads' ho).2.2
    have HO := Aside0.mk ho
    have HP := Aside0.mk hp
    have HA := Aside0.mk (show ∃ r', delO p (l0.drop (i0 + 1)) = some r' ∧ l0.take i0 ++ r' = r from ⟨r0, hr0, hcat⟩)
    have hne1 : ((i0 : Int) == -1) = false := beq_eq_false_iff_ne.2 (by omega)
    clear hI hz h hp ho hr0 hcat
    go_enter Tryd.func57, Tryd.ntmps57
    go_wp2_with (go_at_call 46; refine hcall.mono ?_; rintro e w' ⟨rfl, hb'⟩)
    go_loopg [5, 6, 7] l0.length (fun gg v5 v6 _ wr => ∃ (i j : Nat) (xs : List S25), v5 = .int .i64 i ∧ v6 = .int .i64 j ∧ i < j ∧ j ≤ l0.length ∧ l0.length - j ≤ gg ∧ xs.length = l0.length ∧ Aside0 (xs.drop j = l0.drop j) ∧ Aside0 (∃ r', delO p (l0.drop j) = some r' ∧ xs.take i ++ r' = r) ∧ Aside0 (Kd.R k25 25 wr base (fun _ => True) (.slice (some ⟨gb, 0, none⟩) l0.length cap) xs) ∧ Aside0 (w.grownBy wr (some gb)))
    case atStart => exact ⟨i0, i0 + 1, l0, rfl, by go_num, by omega, by omega, by omega, rfl, ⟨rfl⟩, HA, ⟨Kd.R_below HO.out hb'⟩, ⟨grown_below hb' _⟩⟩
    case round =>
      clear HA HO hcall hne1 hi0
      obtain ⟨i, j, xs, rfl, rfl, hij, hj, hg, hxl, HD, HA, HO, HW⟩ := hrel
      by_cases c2 : j < l0.length
      · obtain ⟨r', hr1, hr2⟩ := HA.out
        clear HA
        rw [List.drop_eq_getElem_cons c2] at hr1
        obtain ⟨b, r2, hb, hr3, rfl⟩ := delO_cons hr1
        clear hr1
        have hxe : xs[j]'(by omega) = l0[j] := by
          have := HD.out
          rw [List.drop_eq_getElem_cons c2, List.drop_eq_getElem_cons (show j < xs.length by omega)] at this
          exact (List.cons.inj this).1
        have hdrop : xs.drop (j + 1) = l0.drop (j + 1) := by
          have := HD.out
          rw [List.drop_eq_getElem_cons c2, List.drop_eq_getElem_cons (show j < xs.length by omega)] at this
          exact (List.cons.inj this).2
        obtain ⟨hx0, hx1, _, _⟩ := elemF HO.out j (by omega)
        rw [hxe] at hx0 hx1
        have hlt' : (j : Int) < (l0.length : Int) := by omega
        have hil : (i : Int) < (l0.length : Int) := by omega
        have HX0 := Aside0.mk hdrop
        have HR := Aside0.mk hr2
        have HR3 := Aside0.mk hr3
        have HC := Aside0.mk hb
        clear HD hdrop hr2 hr3 hb hxe
        generalize l0[j] = y at hx0 hx1 HC HR
        cases b with
        | true =>
          have HR := Aside0.mk (show xs.take i ++ r2 = r by simpa using HR.out)
          go_wp2_with (first | ((with_reducible refine gate_dst (N := 7) rfl ?_); refine box_event ?hg (N := 7) ?hd (cs := #[.string ⟨#[]⟩, .string ⟨#[]⟩]) (t := 25) ?hr ?_; (case hd => rfl); (case hg => rfl); (case hr => first | (go_simp; done) | (go_simp; rfl)); intro g7 hgb w1 hbox hb1; have hc0 := (blk_cell hbox 0); have hc1 := (blk_cell hbox 1); have fz0 := blk_frozen hbox 0; have fz1 := blk_frozen hbox 1; have HX := Aside0.mk hbox; have HG := Aside0.mk (Nat.le_of_eq hgb.symm); have HB1 := Aside0.mk hb1; clear hb1 hbox hgb; simp only [List.getElem?_toArray, List.getElem?_cons_zero, List.getElem?_cons_succ] at hc0 hc1) | ((with_reducible refine gate_store (t := 25) (p := 7) rfl ?_); refine store_event (t := 25) (p := 7) (v := ?vo) (w1 := (w1.setCell ⟨g7, 0, none⟩ (.string y.f0)).setCell ⟨g7, 1, none⟩ (.string y.f1)) ?hg ?ho ?hn ?hr ?_; (case ho => rfl); (case hg => rfl); (case hn => rfl); (case hr => first | (go_simp; done) | (go_simp; rfl)); intro w2 hw; have hb2 : Below wr.heap.size wr w2 := (by rw [hw]; exact below_set (below_set HB1.out HG.out) HG.out); have HX2 := Aside0.mk (show w2.heap[g7]? = some (.cells #[.string y.f0, .string y.f1] 25 (0, 0)) from (by rw [hw]; exact blk_put (blk_put HX.out 0 _ rfl) 1 _ rfl)); have HB2 := Aside0.mk hb2; have hd0 := blk_cell HX2.out 0; have hd1 := blk_cell HX2.out 1; simp only [List.getElem?_toArray, List.getElem?_cons_zero, List.getElem?_cons_succ] at hd0 hd1; clear hw hb2 HX HG HB1 hc0 hc1 fz0 fz1) | (go_at_fn g; refine (HP.out _ y true (grown_trans HW.out (grown_below HB2.out _)) HC.out).mono ?_; rintro e w3 ⟨rfl, hb3⟩))
          go_roundg (l0.length - (j + 1))
          case measure => omega
          case rel => exact ⟨i, j + 1, xs, rfl, by go_num, by omega, by omega, by omega, hxl, HX0, ⟨_, HR3.out, HR.out⟩, ⟨Kd.R_below (Kd.R_below HO.out HB2.out) hb3⟩, ⟨grown_trans HW.out (grown_trans (grown_below HB2.out _) (grown_below hb3 _))⟩⟩
        | false =>
          have HR := Aside0.mk (show xs.take i ++ y :: r2 = r by simpa using HR.out)
          go_wp2_with (first | ((with_reducible refine gate_dst (N := 7) rfl ?_); refine box_event ?hg (N := 7) ?hd (cs := #[.string ⟨#[]⟩, .string ⟨#[]⟩]) (t := 25) ?hr ?_; (case hd => rfl); (case hg => rfl); (case hr => first | (go_simp; done) | (go_simp; rfl)); intro g7 hgb w1 hbox hb1; have hc0 := (blk_cell hbox 0); have hc1 := (blk_cell hbox 1); have fz0 := blk_frozen hbox 0; have fz1 := blk_frozen hbox 1; have HX := Aside0.mk hbox; have HG := Aside0.mk (Nat.le_of_eq hgb.symm); have HB1 := Aside0.mk hb1; clear hb1 hbox hgb; simp only [List.getElem?_toArray, List.getElem?_cons_zero, List.getElem?_cons_succ] at hc0 hc1) | ((with_reducible refine gate_store (t := 25) (p := 7) rfl ?_); refine store_event (t := 25) (p := 7) (v := ?vo) (w1 := (w1.setCell ⟨g7, 0, none⟩ (.string y.f0)).setCell ⟨g7, 1, none⟩ (.string y.f1)) ?hg ?ho ?hn ?hr ?_; (case ho => rfl); (case hg => rfl); (case hn => rfl); (case hr => first | (go_simp; done) | (go_simp; rfl)); intro w2 hw; have hb2 : Below wr.heap.size wr w2 := (by rw [hw]; exact below_set (below_set HB1.out HG.out) HG.out); have HX2 := Aside0.mk (show w2.heap[g7]? = some (.cells #[.string y.f0, .string y.f1] 25 (0, 0)) from (by rw [hw]; exact blk_put (blk_put HX.out 0 _ rfl) 1 _ rfl)); have HB2 := Aside0.mk hb2; have hd0 := blk_cell HX2.out 0; have hd1 := blk_cell HX2.out 1; simp only [List.getElem?_toArray, List.getElem?_cons_zero, List.getElem?_cons_succ] at hd0 hd1; clear hw hb2 HX HG HB1 hc0 hc1 fz0 fz1) | (go_at_fn g; refine (HP.out _ y false (grown_trans HW.out (grown_below HB2.out _)) HC.out).mono ?_; rintro e w3 ⟨rfl, hb3⟩; have hz0 := blk_cell (blk_below HX2.out hb3) 0; have hz1 := blk_cell (blk_below HX2.out hb3) 1; simp only [List.getElem?_toArray, List.getElem?_cons_zero, List.getElem?_cons_succ] at hz0 hz1; have HO3 := Aside0.mk (Kd.R_below (Kd.R_below HO.out HB2.out) hb3); obtain ⟨hy0, hy1, hf0, hf1⟩ := elemF HO3.out i (by omega); have HB3 := Aside0.mk hb3; clear hb3 hd0 hd1))
          obtain ⟨hp4, hg4⟩ := putF HO3.out i (by omega) y
          go_roundg (l0.length - (j + 1))
          case measure => omega
          case rel =>
            refine ⟨i + 1, j + 1, xs.set i y, by go_num, by go_num, by omega, by omega, by omega, by rw [List.length_set, hxl], ⟨?_⟩, ⟨_, HR3.out, ?_⟩, ⟨hp4⟩, ⟨grown_trans HW.out (grown_trans (grown_below HB2.out _) (grown_trans (grown_below HB3.out _) hg4))⟩⟩
            · rw [List.drop_set_of_lt (by omega)]
              exact HX0.out
            · have := HR.out
              rw [← this, List.take_succ_eq_append_getElem (by rw [List.length_set]; omega), List.take_set_of_le (Nat.le_refl _), List.getElem_set_self, List.append_assoc]
              rfl
      · have hje : j = l0.length := by omega
        subst hje
        have hlt' : ¬ (l0.length : Int) < (l0.length : Int) := by omega
        obtain ⟨r', hr1, hr2⟩ := HA.out
        rw [List.drop_eq_nil_of_le (Nat.le_refl _)] at hr1
        obtain rfl := Option.some.inj hr1
        rw [List.append_nil] at hr2
        have hO := HO.out
        rw [← hxl] at hO
        obtain ⟨ys, hR, hyl, hyt, hgr⟩ := R_zeros (l0.length - i) i wr xs hO (by omega)
        have hcl := fun ty => clearF HO.out i (l0.length - i) (cap - i) (by omega) (by omega) ty
        have HR := Aside0.mk (Kd.R_take hR (m := i) (by omega))
        have HRE := Aside0.mk (show ys.take i = r from hyt.trans hr2)
        have HGR := Aside0.mk hgr
        clear hr2 hO hR hgr hyt HA HD
        go_wp2
        go_ret
        exact ⟨_, rfl, by rw [← HRE.out]; exact HR.out, grown_trans HW.out HGR.out⟩


/-! ### slices_Equal_impl_Field_impl_Field: function 36 -/
def slices_Equal_impl_Field_impl_Field.l0 : Nat → List (S25) → List (S25) → Int → Int → Option (Bool)
  | 0, _, _, _, _ => none
  | k + 1, x0, x1, x12, x13 => if x13 < x12 then (if 0 ≤ x13 then (if x13 < (x0.length : Int) then (if x13 < (x1.length : Int) then (if (!((((rd_T25 x0 x13).f0).toList) == (((rd_T25 x1 x13).f0).toList)) || (!((((rd_T25 x0 x13).f1).toList) == (((rd_T25 x1 x13).f1).toList)))) = true then (some false) else (slices_Equal_impl_Field_impl_Field.l0 k x0 x1 x12 (wrap64 (x13 + 1)))) else (none)) else (none)) else (none)) else (some true)
def slices_Equal_impl_Field_impl_Field.f (k : Nat) (l0 : List (S25)) (l1 : List (S25)) : Option (Bool) := if (l0.length : Int) = (l1.length : Int) then (slices_Equal_impl_Field_impl_Field.l0 k l0 l1 (l0.length : Int) 0) else (some false)
theorem slices_Equal_impl_Field_impl_Field.mono_l : ∀ k, (∀ y0 y1 y2 y3, LeO (slices_Equal_impl_Field_impl_Field.l0 k y0 y1 y2 y3) (slices_Equal_impl_Field_impl_Field.l0 (k + 1) y0 y1 y2 y3))
  | 0 => fun _ _ _ _ r h => by simp [slices_Equal_impl_Field_impl_Field.l0] at h
  | k + 1 => by
    have ih0 := slices_Equal_impl_Field_impl_Field.mono_l k
    · intro y0 y1 y2 y3
      unfold slices_Equal_impl_Field_impl_Field.l0
      repeat' first
      | (with_reducible exact ih0 _ _ _ _)
      | (with_reducible exact LeO.refl _)
      | (with_reducible exact LeO.none _)
      | (with_reducible refine LeO.ite ?_ ?_)
      | (with_reducible refine LeO.bind ?_ (fun _ => ?_))
      | exact ih0 _ _ _ _
      | exact LeO.none _
      | refine LeO.ite ?_ ?_
      | refine LeO.bind ?_ (fun _ => ?_)
theorem slices_Equal_impl_Field_impl_Field.mono : ∀ a0 a1 k, LeO (slices_Equal_impl_Field_impl_Field.f k a0 a1) (slices_Equal_impl_Field_impl_Field.f (k + 1) a0 a1) := by
  intro a0 a1 k
  have ih0 := slices_Equal_impl_Field_impl_Field.mono_l k
  unfold slices_Equal_impl_Field_impl_Field.f
  repeat' first
      | (with_reducible exact ih0 _ _ _ _)
      | (with_reducible exact LeO.refl _)
      | (with_reducible exact LeO.none _)
      | (with_reducible refine LeO.ite ?_ ?_)
      | (with_reducible refine LeO.bind ?_ (fun _ => ?_))
      | exact ih0 _ _ _ _
      | exact LeO.none _
      | refine LeO.ite ?_ ?_
      | refine LeO.bind ?_ (fun _ => ?_)
set_option maxHeartbeats 8000000 in
set_option maxRecDepth 100000 in
theorem slices_Equal_impl_Field_impl_Field.calls (k : Nat) (A0 : Option Addr) (c0 : Nat) (l0 : List (S25)) (A1 : Option Addr) (c1 : Nat) (l1 : List (S25)) (r : Bool) (w : World) (hr0 : Kd.C k25 w A0 l0.length l0) (hc0 : l0.length ≤ c0) (hr1 : Kd.C k25 w A1 l1.length l1) (hc1 : l1.length ≤ c1) (h : slices_Equal_impl_Field_impl_Field.f k l0 l1 = some r) :
    Calls Tryd.prog 36 #[.slice A0 l0.length c0, .slice A1 l1.length c1] w fun e w' => e = .returned (.bool r) ∧ Drawn0 w w' := by
  have hu25 := Tryd.underlying25
  have HR0 := Aside0.mk hr0
  have HC0 := Aside0.mk hc0
  clear hr0 hc0
  have HR1 := Aside0.mk hr1
  have HC1 := Aside0.mk hc1
  clear hr1 hc1
  have H : (if (l0.length : Int) = (l1.length : Int) then (slices_Equal_impl_Field_impl_Field.l0 k l0 l1 (l0.length : Int) 0) else (some false)) = some r := h
  clear h
  by_cases c3 : (l0.length : Int) = (l1.length : Int)
  · rw [if_pos c3] at H
    have c3b0 : ((l0.length : Int) == (l1.length : Int)) = true := beq_iff_eq.mpr c3
    have c3b1 : ((l0.length : Int) != (l1.length : Int)) = false := bne_eq_false_iff_eq.mpr c3
    have c3b2 : (l0.length == l1.length) = true := by first | simpa using c3 | (simp at c3 ⊢; omega)
    clear c3
    have H' := Aside0.mk H
    clear H
    go_enter Tryd.func36, Tryd.ntmps36
    go_wp2
    repeat (go_quiet (fail); try go_wp2)
    go_loopg [13] k (fun kq v13 w' => ∃ (x13_1 : Int), v13 = .int .i64 x13_1 ∧ Aside0 (slices_Equal_impl_Field_impl_Field.l0 kq l0 l1 (l0.length : Int) x13_1 = some r) ∧ Aside0 (kq ≤ k) ∧ Drawn0 w w')
    case atStart => exact ⟨(0), (by first | rfl | (simp; done) | (simp [*]; done)), H', ⟨Nat.le_refl _⟩, by repeat (first | exact Drawn0.refl _ | apply Drawn0.step)⟩
    case round =>
      clear H'
      try clear c1
      try clear p2
      try clear c3
      try clear c3b0
      try clear c3b1
      try clear c3b2
      obtain ⟨x13_1, rfl, HA, HK1, ⟨m1, rfl⟩⟩ := hrel
      cases gk with
      | zero => exact absurd HA.out (by simp [slices_Equal_impl_Field_impl_Field.l0])
      | succ k1 =>
        have H := HA.out
        clear HA
        simp only [slices_Equal_impl_Field_impl_Field.l0] at H
        by_cases c4 : x13_1 < (l0.length : Int)
        · rw [if_pos c4] at H
          have c4b0 : decide (x13_1 < (l0.length : Int)) = true := decide_eq_true c4
          clear c4
          by_cases c5 : 0 ≤ x13_1
          · rw [if_pos c5] at H
            have c5b0 : decide (0 ≤ x13_1) = true := decide_eq_true c5
            clear c5
            by_cases c6 : x13_1 < (l0.length : Int)
            · rw [if_pos c6] at H
              have c6b0 : decide (x13_1 < (l0.length : Int)) = true := decide_eq_true c6
              clear c6
              by_cases c7 : x13_1 < (l1.length : Int)
              · rw [if_pos c7] at H
                have c7b0 : decide (x13_1 < (l1.length : Int)) = true := decide_eq_true c7
                clear c7
                by_cases c8 : (!((((rd_T25 l0 x13_1).f0).toList) == (((rd_T25 l1 x13_1).f0).toList)) || (!((((rd_T25 l0 x13_1).f1).toList) == (((rd_T25 l1 x13_1).f1).toList)))) = true
                · rw [if_pos c8] at H
                  have c8b0 : (!((((rd_T25 l0 x13_1).f0).toList) == (((rd_T25 l1 x13_1).f0).toList)) || (!((((rd_T25 l0 x13_1).f1).toList) == (((rd_T25 l1 x13_1).f1).toList)))) = true := c8
                  clear c8
                  obtain rfl := Option.some.inj H
                  have p101 : 0 ≤ (x13_1 : Int) := of_decide_eq_true (by first | (with_reducible assumption) | assumption)
                  have q101 : x13_1 < (l0.length : Int) := of_decide_eq_true (by first | (with_reducible assumption) | assumption)
                  obtain ⟨ad101, e101, hx101_0, hx101_1⟩ := at_T25 HR0.out x13_1 p101 q101
                  cases e101
                  replace p101 := eq_true p101
                  replace q101 := eq_true q101
                  have p102 : 0 ≤ (x13_1 : Int) := of_decide_eq_true (by first | (with_reducible assumption) | assumption)
                  have q102 : x13_1 < (l1.length : Int) := of_decide_eq_true (by first | (with_reducible assumption) | assumption)
                  obtain ⟨ad102, e102, hx102_0, hx102_1⟩ := at_T25 HR1.out x13_1 p102 q102
                  cases e102
                  replace p102 := eq_true p102
                  replace q102 := eq_true q102
                  go_wp2
                  repeat (go_quiet (fail); try go_wp2)
                  go_ret
                  exact ⟨by first | rfl | (simp; done) | (simp [*]; done), by repeat (first | exact Drawn0.refl _ | apply Drawn0.step)⟩
                · rw [if_neg c8] at H
                  have c8b0 : (!((((rd_T25 l0 x13_1).f0).toList) == (((rd_T25 l1 x13_1).f0).toList)) || (!((((rd_T25 l0 x13_1).f1).toList) == (((rd_T25 l1 x13_1).f1).toList)))) = false := by simpa using c8
                  clear c8
                  have H' := Aside0.mk H
                  clear H
                  have p101 : 0 ≤ (x13_1 : Int) := of_decide_eq_true (by first | (with_reducible assumption) | assumption)
                  have q101 : x13_1 < (l0.length : Int) := of_decide_eq_true (by first | (with_reducible assumption) | assumption)
                  obtain ⟨ad101, e101, hx101_0, hx101_1⟩ := at_T25 HR0.out x13_1 p101 q101
                  cases e101
                  replace p101 := eq_true p101
                  replace q101 := eq_true q101
                  have p102 : 0 ≤ (x13_1 : Int) := of_decide_eq_true (by first | (with_reducible assumption) | assumption)
                  have q102 : x13_1 < (l1.length : Int) := of_decide_eq_true (by first | (with_reducible assumption) | assumption)
                  obtain ⟨ad102, e102, hx102_0, hx102_1⟩ := at_T25 HR1.out x13_1 p102 q102
                  cases e102
                  replace p102 := eq_true p102
                  replace q102 := eq_true q102
                  go_wp2
                  repeat (go_quiet (fail); try go_wp2)
                  go_roundg k1
                  case measure => have := HK1.out; omega
                  case rel => exact ⟨(wrap64 (x13_1 + 1)), (by first | rfl | (simp; done) | (simp [*]; done)), H', ⟨by have := HK1.out; omega⟩, by repeat (first | exact Drawn0.refl _ | apply Drawn0.step)⟩
              · rw [if_neg c7] at H
                exact absurd H (by simp)
            · rw [if_neg c6] at H
              exact absurd H (by simp)
          · rw [if_neg c5] at H
            exact absurd H (by simp)
        · rw [if_neg c4] at H
          have c4b0 : decide (x13_1 < (l0.length : Int)) = false := decide_eq_false c4
          clear c4
          obtain rfl := Option.some.inj H
          go_wp2
          repeat (go_quiet (fail); try go_wp2)
          go_ret
          exact ⟨by first | rfl | (simp; done) | (simp [*]; done), by repeat (first | exact Drawn0.refl _ | apply Drawn0.step)⟩
  · rw [if_neg c3] at H
    have c3b0 : ((l0.length : Int) == (l1.length : Int)) = false := beq_eq_false_iff_ne.mpr c3
    have c3b1 : ((l0.length : Int) != (l1.length : Int)) = true := bne_iff_ne.mpr c3
    have c3b2 : (l0.length == l1.length) = false := by first | simpa using c3 | (simp at c3 ⊢; omega)
    obtain rfl := Option.some.inj H
    go_enter Tryd.func36, Tryd.ntmps36
    go_wp2
    repeat (go_quiet (fail); try go_wp2)
    go_ret
    exact ⟨by first | rfl | (simp; done) | (simp [*]; done), by repeat (first | exact Drawn0.refl _ | apply Drawn0.step)⟩

end Go.Proofs.YtogmkfenplihoaaDoor.Q
