/- Layer 8, the window, where the policy may be: a list's copy. -/
import Derived.Test.YtnodnpenlplleaaWinB
import Derived.Lib.SliceRun
import Derived.StillTailTactics
namespace Go.Proofs.Ytnodnpenlplleaa.Own
open Go.RowKit Go.Proofs.YtnodnpenlplleaaW.PrintWords Go.Proofs.YtnodnpenlplleaaW.PrintLast Go.Proofs.YtnodnpenlplleaaW.PrintMore
set_option linter.unusedVariables false
set_option linter.unusedSimpArgs false

set_option maxRecDepth 100000 in
set_option maxHeartbeats 1000000 in
theorem Clone_fn (A : Option Addr) (c : Nat) (l : List Int) (w : World) (hr : Kd.C (Kd.int .i64) w A l.length l) (h0 : 0 < l.length) (hl : l.length ≤ 32) :
    Calls Try.prog 147 #[.slice A l.length c] w fun e w' => ∃ v, e = .returned v ∧ Kd.R (Kd.int .i64) 3 w' w.heap.size (fun _ => True) v l ∧ Below w.heap.size w w' := by
  obtain ⟨ad, eA, _⟩ := hr.2.2 h0
  subst eA
  have hb : Below w.heap.size w (w.alloc (.cells #[] 3 (0, 0))) := (Below.refl _ w).alloc (Nat.le_refl _) _
  have HR := Aside0.mk (Kd.C_below hr hb)
  have HO := Aside0.mk (Kd.R_of_own (enc := Value.int .i64) (h1 := fun _ => rfl) (ok := fun _ => True) (own_lit_of (enc := Value.int .i64) w w.heap.size 3 ([] : List Int) (Nat.le_refl _) (by decide)) (fun _ _ => trivial))
  have HB := Aside0.mk hb
  clear hb hr
  have q := fun (w : World) => Lib.run_eql_slice_nil (P := Try.prog) w 61 3 (some ad) l.length c 0 0 Try.underlying61
  go_enter Try.func147, Try.ntmps147
  go_wp2_with (first | ((with_reducible refine gate_builtin (b := .append) (xs := #[.tmp 5, .tmp 6]) rfl ?_); at_builtin; refine Kd.R_append_row (Value.int .i64) (0 : Int) (w0 := w) w.heap.size rfl (.tmp 5) (.tmp 6) 61 3 (.int .i64 0) 8 rfl Try.underlying61 infoInt rfl (by decide) (.slice (some ⟨w.heap.size, 0, none⟩) 0 0) [] l (some ad) l.length c (fun _ => True) rfl rfl (fun _ _ => trivial) HO.out HR.out HB.out (by simp) (by simp; omega) ?_; intro v1 w1 ho hb hg hat; have HO1 := Aside0.mk ho; have HB1 := Aside0.mk hb; clear ho hb hg hat) | fail)
  go_ret
  exact ⟨_, rfl, HO1.out, HB1.out⟩

end Go.Proofs.Ytnodnpenlplleaa.Own
/- Layer 8, the window, where the policy may be: a window as it counts. -/
namespace Go.Proofs.Ytnodnpenlplleaa.Own
open Go.RowKit Go.Proofs.YtnodnpenlplleaaW.PrintWords Go.Proofs.YtnodnpenlplleaaW.PrintLast Go.Proofs.YtnodnpenlplleaaW.PrintMore
set_option linter.unusedVariables false
set_option linter.unusedSimpArgs false
attribute [local go_sem] Oper.semAt_some
def counts__T2 : Bool × List (List Nat × List Nat) := (true, [([], []), ([0], [0]), ([1], [1]), ([2], [2]), ([3], [3]), ([4, 3], [3, 4]), ([3], [3]), ([6, 3, 3], [3, 6]), ([5, 7, 3], [3, 5, 7]), ([3, 8], [3, 8]), ([9, 7], [9]), ([10], [10]), ([11, 10], [10, 11]), ([12, 10], [10, 12]), ([10], [10]), ([14, 10], [10, 14]), ([13, 15, 10], [10, 13, 15]), ([10, 16], [10, 16]), ([17, 10], [17]), ([18], [18]), ([19, 18], [18, 19]), ([18], [18]), ([20, 21, 18, 18], [18, 20, 21]), ([18, 22], [18, 22])])
def counts__B2 : List Nat := [0, 1, 3, 7, 15, 31, 15, 79, 255, 511, 1023, 2047, 4095, 8191, 2047, 18431, 65535, 131071, 262143, 524287, 1048575, 524287, 4194303, 8388607]
theorem counts__tab2 : rtab .any (opsOf Try.f143 2) = counts__T2 := by kernel_rfl
theorem counts__bits2 : waitsOk counts__T2.2 counts__B2 = true := by kernel_rfl
def counts4__T4 : Bool × List (List Nat × List Nat) := (true, [([], []), ([0], [0]), ([], []), ([2], [2]), ([3], [3]), ([1, 4], [1, 4]), ([5, 4, 0, 1, 2, 3, 4, 5], [5])])
def counts4__B4 : List Nat := [0, 1, 0, 4, 12, 31, 63]
theorem counts4__tab4 : rtab .any (opsOf Try.f143 4) = counts4__T4 := by kernel_rfl
theorem counts4__bits4 : waitsOk counts4__T4.2 counts4__B4 = true := by kernel_rfl

/-- A window that counts. -/
def okW (p : Pol) (g : Int) (l : List Int) : Prop := 0 ≤ g ∧ g ≤ 1099511627776 / p.width ∧ (l.length : Int) = p.count ∧ okL l

set_option maxRecDepth 100000 in
set_option maxHeartbeats 1000000 in
theorem counts_fn (p : Pol) (g : Int) (A : Option Addr) (c : Nat) (l : List Int) (w : World) (hp : p.ok) (hk : p.kind = 2) (hr : Kd.C (Kd.int .i64) w A l.length l) (hw : okW p g l) :
    Calls Try.prog 143 #[p.val, .agg #[.int .i64 g, .slice A l.length c]] w fun e w' => ∃ v, e = .returned (.agg #[.int .i64 g, v]) ∧ Kd.R (Kd.int .i64) 3 w' w.heap.size (fun _ => True) v l ∧ Below w.heap.size w w' := by
  have HGR := Aside0.mk (fun w' => Grid_fn p 1099511627776 w' hp hk (by omega) (by omega))
  have hpi := Pol.is hp
  obtain ⟨kind, cap, num, den, width, count, keys, slots, every, seg⟩ := p
  simp only at hk hpi
  subst hk
  obtain ⟨hw1, hw2, hw3, hw4⟩ := hw
  simp only [Pol.val, Pol.cells] at HGR hw2 hw3 ⊢
  have hl : l.length ≤ 32 := by omega
  have hl0 : 0 < l.length := by omega
  have HANY := Aside0.mk (show l.any (fun n => decide (n < 0 ∨ 1099511627776 < n)) = false from by
    rw [List.any_eq_false]
    intro x hx
    have := hw4 x hx
    simp; omega)
  have f1 : decide (g < 0) = false := decide_eq_false (by omega)
  have f2 : decide (1099511627776 / width < g) = false := decide_eq_false (by omega)
  subst hw3
  have HC0 := Aside0.mk hr
  obtain ⟨W0, hW0⟩ : ∃ W0, ((w.alloc (.cells #[.int .i64 2, .int .i64 cap, .int .i64 num, .int .i64 den, .int .i64 width, .int .i64 (l.length : Int), .int .i64 keys, .int .i64 slots, .int .i64 every, .int .i64 seg] 23 (0, 0))).alloc (.cells #[.int .i64 g, .slice A l.length c] 106 (0, 0))).alloc (.cells #[.int .i64 0, .slice none 0 0] 106 (0, 0)) = W0 := ⟨_, rfl⟩
  have hS : HeldB w [(w.heap.size + 1 + 1, .cells #[.int .i64 0, .slice none 0 0] 106 (0, 0)), (w.heap.size + 1, .cells #[.int .i64 g, .slice A l.length c] 106 (0, 0)), (w.heap.size, .cells #[.int .i64 2, .int .i64 cap, .int .i64 num, .int .i64 den, .int .i64 width, .int .i64 (l.length : Int), .int .i64 keys, .int .i64 slots, .int .i64 every, .int .i64 seg] 23 (0, 0))] W0 := by
    rw [← hW0]
    have h1 := HeldB.one (w0 := w) (x := (w.heap.size, .cells #[.int .i64 2, .int .i64 cap, .int .i64 num, .int .i64 den, .int .i64 width, .int .i64 (l.length : Int), .int .i64 keys, .int .i64 slots, .int .i64 every, .int .i64 seg] 23 (0, 0))) (heap_alloc_new w _) ((Below.refl _ w).alloc (Nat.le_refl _) _)
    have h2 := (h1.step ((Below.refl _ _).alloc (Nat.le_refl _) _)).more (x := (w.heap.size + 1, .cells #[.int .i64 g, .slice A l.length c] 106 (0, 0))) (by have := heap_alloc_new (w.alloc (.cells #[.int .i64 2, .int .i64 cap, .int .i64 num, .int .i64 den, .int .i64 width, .int .i64 (l.length : Int), .int .i64 keys, .int .i64 slots, .int .i64 every, .int .i64 seg] 23 (0, 0))) (.cells #[.int .i64 g, .slice A l.length c] 106 (0, 0)); simpa using this)
    have h3 := (h2.step ((Below.refl _ _).alloc (Nat.le_refl _) _)).more (x := (w.heap.size + 1 + 1, .cells #[.int .i64 0, .slice none 0 0] 106 (0, 0))) (by have := heap_alloc_new ((w.alloc (.cells #[.int .i64 2, .int .i64 cap, .int .i64 num, .int .i64 den, .int .i64 width, .int .i64 (l.length : Int), .int .i64 keys, .int .i64 slots, .int .i64 every, .int .i64 seg] 23 (0, 0))).alloc (.cells #[.int .i64 g, .slice A l.length c] 106 (0, 0))) (.cells #[.int .i64 0, .slice none 0 0] 106 (0, 0)); simpa using this)
    exact h3
  have HS1 := Aside0.mk hS
  have HW := Aside0.mk hW0
  clear hS hpi hp hw1 hw2 hw4 hr hW0
  go_enter Try.func143, Try.ntmps143
  go_wp2_with fail
  rw [HW.out]
  refine start_ (n := 24) (S := HeldB w [(w.heap.size + 1 + 1, .cells #[.int .i64 0, .slice none 0 0] 106 (0, 0)), (w.heap.size + 1, .cells #[.int .i64 g, .slice A l.length c] 106 (0, 0)), (w.heap.size, .cells #[.int .i64 2, .int .i64 cap, .int .i64 num, .int .i64 den, .int .i64 width, .int .i64 (l.length : Int), .int .i64 keys, .int .i64 slots, .int .i64 every, .int .i64 seg] 23 (0, 0))]) (ds := []) #[false, false, false, false, false, false, false, false, false, false, false, false, false, false, false, false, false, false, false, false, false, false, false, false] (by kernel_rfl) rfl rfl (HS1.out.drew) (fun hHeld => ?_); refine with_tabW counts__tab2 counts__bits2 (fun HT_ HW_ => ?_)
  refine pure_ (i := 0) (N := some 6) (v := ?_) (a' := ?_) #[true, false, false, false, false, false, false, false, false, false, false, false, false, false, false, false, false, false, false, false, false, false, false, false] rfl rfl (any_of HT_.out (by kernel_rfl)) (fun _ _ _ h => h) (Or.inl ⟨by rfl, ?_⟩) ?_ ?_
  rotate_left
  · intro w'
    go_simp
    try with_reducible rfl
  rotate_left
  · simp only [Act.put, List.setIfInBounds_toArray, List.set_cons_zero, List.set_cons_succ]
    rfl
  refine take_ (i := 1) (N := some 7) (v := ?_) (a' := ?_) #[true, true, false, false, false, false, false, false, false, false, false, false, false, false, false, false, false, false, false, false, false, false, false, false] rfl rfl (take_ofW HT_.out HW_.out (by kernel_rfl)) (fun _ _ _ h => h) (Or.inl ⟨by rfl, ?_⟩) hHeld ?_ ?_
  rotate_left
  · intro w' hS'
    have hx := hS'.1 (w.heap.size + 1, .cells #[.int .i64 g, .slice A l.length c] 106 (0, 0)) (by simp)
    have c0 : w'.cell? ⟨w.heap.size + 1, 0, none⟩ = some (.int .i64 g) := by rw [cell_of_row w' _ 0 _ _ _ hx]; rfl
    go_simp
    try with_reducible rfl
  rotate_left
  · simp only [Act.put, List.setIfInBounds_toArray, List.set_cons_zero, List.set_cons_succ]
    rfl
  refine pure_ (i := 2) (N := some 8) (v := ?_) (a' := ?_) #[true, true, true, false, false, false, false, false, false, false, false, false, false, false, false, false, false, false, false, false, false, false, false, false] rfl rfl (any_of HT_.out (by kernel_rfl)) (fun _ _ _ h => h) (Or.inl ⟨by rfl, ?_⟩) ?_ ?_
  rotate_left
  · intro w'
    go_simp
    try with_reducible rfl
  rotate_left
  · simp only [Act.put, List.setIfInBounds_toArray, List.set_cons_zero, List.set_cons_succ]
    rfl
  refine pure_ (i := 3) (N := some 9) (v := ?_) (a' := ?_) #[true, true, true, true, false, false, false, false, false, false, false, false, false, false, false, false, false, false, false, false, false, false, false, false] rfl rfl (any_of HT_.out (by kernel_rfl)) (fun _ _ _ h => h) (Or.inl ⟨by rfl, ?_⟩) ?_ ?_
  rotate_left
  · intro w'
    go_simp
    try with_reducible rfl
  rotate_left
  · simp only [Act.put, List.setIfInBounds_toArray, List.set_cons_zero, List.set_cons_succ]
    rfl
  refine pure_ (i := 4) (N := some 10) (v := ?_) (a' := ?_) #[true, true, true, true, true, false, false, false, false, false, false, false, false, false, false, false, false, false, false, false, false, false, false, false] rfl rfl (any_of HT_.out (by kernel_rfl)) (fun _ _ _ h => h) (Or.inl ⟨by rfl, ?_⟩) ?_ ?_
  rotate_left
  · intro w'
    go_simp
    try with_reducible rfl
  rotate_left
  · simp only [Act.put, List.setIfInBounds_toArray, List.set_cons_zero, List.set_cons_succ]
    rfl
  refine take_ (i := 5) (N := some 11) (v := ?_) (a' := ?_) #[true, true, true, true, true, true, false, false, false, false, false, false, false, false, false, false, false, false, false, false, false, false, false, false] rfl rfl (take_ofW HT_.out HW_.out (by kernel_rfl)) (fun _ _ _ h => h) (Or.inl ⟨by rfl, ?_⟩) hHeld ?_ ?_
  rotate_left
  · intro w' hS'
    have hx := hS'.1 (w.heap.size + 1, .cells #[.int .i64 g, .slice A l.length c] 106 (0, 0)) (by simp)
    have c0 : w'.cell? ⟨w.heap.size + 1, 0, none⟩ = some (.int .i64 g) := by rw [cell_of_row w' _ 0 _ _ _ hx]; rfl
    go_simp
    try with_reducible rfl
  rotate_left
  · simp only [Act.put, List.setIfInBounds_toArray, List.set_cons_zero, List.set_cons_succ]
    rfl
  refine take_ (i := 6) (N := some 12) (v := .agg #[.int .i64 2, .int .i64 cap, .int .i64 num, .int .i64 den, .int .i64 width, .int .i64 (l.length : Int), .int .i64 keys, .int .i64 slots, .int .i64 every, .int .i64 seg]) (a' := ?_) #[true, true, true, true, true, true, true, false, false, false, false, false, false, false, false, false, false, false, false, false, false, false, false, false] rfl rfl (take_ofW HT_.out HW_.out (by kernel_rfl)) (fun _ _ _ h => h) (yields_blk (by rfl) 23 _ rfl w.heap.size rfl (fun w' hS' => hS'.1 (w.heap.size, .cells #[.int .i64 2, .int .i64 cap, .int .i64 num, .int .i64 den, .int .i64 width, .int .i64 (l.length : Int), .int .i64 keys, .int .i64 slots, .int .i64 every, .int .i64 seg] 23 (0, 0)) (by simp)) Try.underlying23 rfl infoPol) hHeld ?_ ?_
  rotate_left
  · simp only [Act.put, List.setIfInBounds_toArray, List.set_cons_zero, List.set_cons_succ]
    rfl
  refine one_ (i := 7) (N := some 13) #[true, true, true, true, true, true, true, true, false, false, false, false, false, false, false, false, false, false, false, false, false, false, false, false] rfl rfl (one_of HT_.out (by kernel_rfl)) (by decide) (fun K hK => ?_)
  refine goes_ Try.func88 (by kernel_rfl) rfl #[.agg #[.int .i64 2, .int .i64 cap, .int .i64 num, .int .i64 den, .int .i64 width, .int .i64 (l.length : Int), .int .i64 keys, .int .i64 slots, .int .i64 every, .int .i64 seg], .int .i64 1099511627776] (by rfl) rfl rfl (by simp [Act.eval]) ?_
  refine (HGR.out _).mono ?_
  rintro e w2 ⟨rfl, hb⟩
  refine ⟨_, rfl, ?_⟩
  simp only [Act.put, List.setIfInBounds_toArray, List.set_cons_zero, List.set_cons_succ]
  have hb2 := hb
  refine hK.out _ _ (hHeld.step hb) (fun hHeld => ?_)
  clear hK K
  refine pure_ (i := 8) (N := some 14) (v := ?_) (a' := ?_) #[true, true, true, true, true, true, true, true, true, false, false, false, false, false, false, false, false, false, false, false, false, false, false, false] rfl rfl (any_of HT_.out (by kernel_rfl)) (fun _ _ _ h => h) (Or.inl ⟨by rfl, ?_⟩) ?_ ?_
  rotate_left
  · intro w'
    go_simp
    try with_reducible rfl
  rotate_left
  · simp only [Act.put, List.setIfInBounds_toArray, List.set_cons_zero, List.set_cons_succ]
    rfl
  refine pure_ (i := 9) (N := some 15) (v := ?_) (a' := ?_) #[true, true, true, true, true, true, true, true, true, true, false, false, false, false, false, false, false, false, false, false, false, false, false, false] rfl rfl (any_of HT_.out (by kernel_rfl)) (fun _ _ _ h => h) (Or.inl ⟨by rfl, ?_⟩) ?_ ?_
  rotate_left
  · intro w'
    go_simp
    try with_reducible rfl
  rotate_left
  · simp only [Act.put, List.setIfInBounds_toArray, List.set_cons_zero, List.set_cons_succ]
    rfl
  refine pure_ (i := 10) (N := some 16) (v := ?_) (a' := ?_) #[true, true, true, true, true, true, true, true, true, true, true, false, false, false, false, false, false, false, false, false, false, false, false, false] rfl rfl (any_of HT_.out (by kernel_rfl)) (fun _ _ _ h => h) (Or.inl ⟨by rfl, ?_⟩) ?_ ?_
  rotate_left
  · intro w'
    go_simp
    try with_reducible rfl
  rotate_left
  · simp only [Act.put, List.setIfInBounds_toArray, List.set_cons_zero, List.set_cons_succ]
    rfl
  refine pure_ (i := 11) (N := some 17) (v := ?_) (a' := ?_) #[true, true, true, true, true, true, true, true, true, true, true, true, false, false, false, false, false, false, false, false, false, false, false, false] rfl rfl (any_of HT_.out (by kernel_rfl)) (fun _ _ _ h => h) (Or.inl ⟨by rfl, ?_⟩) ?_ ?_
  rotate_left
  · intro w'
    go_simp
    try with_reducible rfl
  rotate_left
  · simp only [Act.put, List.setIfInBounds_toArray, List.set_cons_zero, List.set_cons_succ]
    rfl
  refine pure_ (i := 14) (N := some 20) (v := ?_) (a' := ?_) #[true, true, true, true, true, true, true, true, true, true, true, true, false, false, true, false, false, false, false, false, false, false, false, false] rfl rfl (any_of HT_.out (by kernel_rfl)) (fun _ _ _ h => h) (Or.inl ⟨by rfl, ?_⟩) ?_ ?_
  rotate_left
  · intro w'
    go_simp
    try with_reducible rfl
  rotate_left
  · simp only [Act.put, List.setIfInBounds_toArray, List.set_cons_zero, List.set_cons_succ]
    rfl
  refine take_ (i := 12) (N := some 18) (v := ?_) (a' := ?_) #[true, true, true, true, true, true, true, true, true, true, true, true, true, false, true, false, false, false, false, false, false, false, false, false] rfl rfl (take_ofW HT_.out HW_.out (by kernel_rfl)) (fun _ _ _ h => h) (Or.inl ⟨by rfl, ?_⟩) hHeld ?_ ?_
  rotate_left
  · intro w' hS'
    have hx := hS'.1 (w.heap.size + 1, .cells #[.int .i64 g, .slice A l.length c] 106 (0, 0)) (by simp)
    have c0 : w'.cell? ⟨w.heap.size + 1, 1, none⟩ = some (.slice A l.length c) := by rw [cell_of_row w' _ 1 _ _ _ hx]; rfl
    go_simp
    try with_reducible rfl
  rotate_left
  · simp only [Act.put, List.setIfInBounds_toArray, List.set_cons_zero, List.set_cons_succ]
    rfl
  refine pure_ (i := 13) (N := some 19) (v := ?_) (a' := ?_) #[true, true, true, true, true, true, true, true, true, true, true, true, true, true, true, false, false, false, false, false, false, false, false, false] rfl rfl (any_of HT_.out (by kernel_rfl)) (fun _ _ _ h => h) (Or.inl ⟨by rfl, ?_⟩) ?_ ?_
  rotate_left
  · intro w'
    go_simp
    try with_reducible rfl
  rotate_left
  · simp only [Act.put, List.setIfInBounds_toArray, List.set_cons_zero, List.set_cons_succ]
    rfl
  refine take_ (i := 15) (N := some 21) (v := ?_) (a' := ?_) #[true, true, true, true, true, true, true, true, true, true, true, true, true, true, true, true, false, false, false, false, false, false, false, false] rfl rfl (take_ofW HT_.out HW_.out (by kernel_rfl)) (fun _ _ _ h => h) (Or.inl ⟨by rfl, ?_⟩) hHeld ?_ ?_
  rotate_left
  · intro w' hS'
    have hx := hS'.1 (w.heap.size, .cells #[.int .i64 2, .int .i64 cap, .int .i64 num, .int .i64 den, .int .i64 width, .int .i64 (l.length : Int), .int .i64 keys, .int .i64 slots, .int .i64 every, .int .i64 seg] 23 (0, 0)) (by simp)
    have c0 : w'.cell? ⟨w.heap.size, 5, none⟩ = some (.int .i64 (l.length : Int)) := by rw [cell_of_row w' _ 5 _ _ _ hx]; rfl
    go_simp
    try with_reducible rfl
  rotate_left
  · simp only [Act.put, List.setIfInBounds_toArray, List.set_cons_zero, List.set_cons_succ]
    rfl
  refine pure_ (i := 16) (N := some 22) (v := ?_) (a' := ?_) #[true, true, true, true, true, true, true, true, true, true, true, true, true, true, true, true, true, false, false, false, false, false, false, false] rfl rfl (any_of HT_.out (by kernel_rfl)) (fun _ _ _ h => h) (Or.inl ⟨by rfl, ?_⟩) ?_ ?_
  rotate_left
  · intro w'
    go_simp
    try with_reducible rfl
  rotate_left
  · simp only [Act.put, List.setIfInBounds_toArray, List.set_cons_zero, List.set_cons_succ]
    rfl
  refine pure_ (i := 17) (N := some 23) (v := ?_) (a' := ?_) #[true, true, true, true, true, true, true, true, true, true, true, true, true, true, true, true, true, true, false, false, false, false, false, false] rfl rfl (any_of HT_.out (by kernel_rfl)) (fun _ _ _ h => h) (Or.inl ⟨by rfl, ?_⟩) ?_ ?_
  rotate_left
  · intro w'
    go_simp
    try with_reducible rfl
  rotate_left
  · simp only [Act.put, List.setIfInBounds_toArray, List.set_cons_zero, List.set_cons_succ]
    rfl
  refine pure_ (i := 18) (N := some 24) (v := ?_) (a' := ?_) #[true, true, true, true, true, true, true, true, true, true, true, true, true, true, true, true, true, true, true, false, false, false, false, false] rfl rfl (any_of HT_.out (by kernel_rfl)) (fun _ _ _ h => h) (Or.inl ⟨by rfl, ?_⟩) ?_ ?_
  rotate_left
  · intro w'
    go_simp
    try with_reducible rfl
  rotate_left
  · simp only [Act.put, List.setIfInBounds_toArray, List.set_cons_zero, List.set_cons_succ]
    rfl
  refine pure_ (i := 19) (N := some 25) (v := ?_) (a' := ?_) #[true, true, true, true, true, true, true, true, true, true, true, true, true, true, true, true, true, true, true, true, false, false, false, false] rfl rfl (any_of HT_.out (by kernel_rfl)) (fun _ _ _ h => h) (Or.inl ⟨by rfl, ?_⟩) ?_ ?_
  rotate_left
  · intro w'
    go_simp
    try with_reducible rfl
  rotate_left
  · simp only [Act.put, List.setIfInBounds_toArray, List.set_cons_zero, List.set_cons_succ]
    rfl
  refine pure_ (i := 21) (N := some 27) (v := ?_) (a' := ?_) #[true, true, true, true, true, true, true, true, true, true, true, true, true, true, true, true, true, true, true, true, false, true, false, false] rfl rfl (any_of HT_.out (by kernel_rfl)) (fun _ _ _ h => h) (Or.inl ⟨by rfl, ?_⟩) ?_ ?_
  rotate_left
  · intro w'
    go_simp
    try with_reducible rfl
  rotate_left
  · simp only [Act.put, List.setIfInBounds_toArray, List.set_cons_zero, List.set_cons_succ]
    rfl
  refine take_ (i := 20) (N := some 26) (v := ?_) (a' := ?_) #[true, true, true, true, true, true, true, true, true, true, true, true, true, true, true, true, true, true, true, true, true, true, false, false] rfl rfl (take_ofW HT_.out HW_.out (by kernel_rfl)) (fun _ _ _ h => h) (Or.inl ⟨by rfl, ?_⟩) hHeld ?_ ?_
  rotate_left
  · intro w' hS'
    have hx := hS'.1 (w.heap.size + 1, .cells #[.int .i64 g, .slice A l.length c] 106 (0, 0)) (by simp)
    have c0 : w'.cell? ⟨w.heap.size + 1, 1, none⟩ = some (.slice A l.length c) := by rw [cell_of_row w' _ 1 _ _ _ hx]; rfl
    go_simp
    try with_reducible rfl
  rotate_left
  · simp only [Act.put, List.setIfInBounds_toArray, List.set_cons_zero, List.set_cons_succ]
    rfl
  refine one_ (i := 22) (N := some 28) #[true, true, true, true, true, true, true, true, true, true, true, true, true, true, true, true, true, true, true, true, true, true, true, false] rfl rfl (one_of HT_.out (by kernel_rfl)) (by decide) (fun K hK => ?_)
  refine goes_ Try.func63 (by kernel_rfl) rfl #[.slice A l.length c, .func (.func 146) #[] #[]] (by rfl) rfl rfl (by simp [Act.eval]) ?_
  refine (ContainsFunc_fn _ _ wrong_looks A c l _ (Kd.C_below HC0.out hHeld.2) hl).mono ?_
  rintro e w3 ⟨rfl, hw3⟩
  refine ⟨_, rfl, ?_⟩
  simp only [Act.put, List.setIfInBounds_toArray, List.set_cons_zero, List.set_cons_succ]
  rw [HANY.out, hw3]
  clear hw3 w3
  refine hK.out _ _ (hHeld) (fun hHeld => ?_)
  clear hK K
  refine pure_ (i := 23) (N := some 29) (v := ?_) (a' := ?_) #[true, true, true, true, true, true, true, true, true, true, true, true, true, true, true, true, true, true, true, true, true, true, true, true] rfl rfl (any_of HT_.out (by kernel_rfl)) (fun _ _ _ h => h) (Or.inl ⟨by rfl, ?_⟩) ?_ ?_
  rotate_left
  · intro w'
    go_simp
    try with_reducible rfl
  rotate_left
  · simp only [Act.put, List.setIfInBounds_toArray, List.set_cons_zero, List.set_cons_succ]
    rfl
  refine done_ (done_of HT_.out (by kernel_rfl)) ?_
  have HS2 := Aside0.mk hHeld
  clear hHeld HT_ HW_
  go_wp2_with fail
  refine start_ (n := 7) (S := HeldB w [(w.heap.size + 1 + 1, .cells #[.int .i64 0, .slice none 0 0] 106 (0, 0)), (w.heap.size + 1, .cells #[.int .i64 g, .slice A l.length c] 106 (0, 0)), (w.heap.size, .cells #[.int .i64 2, .int .i64 cap, .int .i64 num, .int .i64 den, .int .i64 width, .int .i64 (l.length : Int), .int .i64 keys, .int .i64 slots, .int .i64 every, .int .i64 seg] 23 (0, 0))]) (ds := [6]) #[false, false, false, false, false, false, false] (by kernel_rfl) rfl rfl (HS2.out.drew) (fun hHeld => ?_); refine with_tabW counts4__tab4 counts4__bits4 (fun HT_ HW_ => ?_)
  refine pure_ (i := 0) (N := some 32) (v := ?_) (a' := ?_) #[true, false, false, false, false, false, false] rfl rfl (any_of HT_.out (by kernel_rfl)) (fun _ _ _ h => h) (Or.inl ⟨by rfl, ?_⟩) ?_ ?_
  rotate_left
  · intro w'
    go_simp
    try with_reducible rfl
  rotate_left
  · simp only [Act.put, List.setIfInBounds_toArray, List.set_cons_zero, List.set_cons_succ]
    rfl
  refine pure_ (i := 2) (N := some 34) (v := ?_) (a' := ?_) #[true, false, true, false, false, false, false] rfl rfl (any_of HT_.out (by kernel_rfl)) (fun _ _ _ h => h) (Or.inl ⟨by rfl, ?_⟩) ?_ ?_
  rotate_left
  · intro w'
    go_simp
    try with_reducible rfl
  rotate_left
  · simp only [Act.put, List.setIfInBounds_toArray, List.set_cons_zero, List.set_cons_succ]
    rfl
  refine take_ (i := 1) (N := some 33) (v := ?_) (a' := ?_) #[true, true, true, false, false, false, false] rfl rfl (take_ofW HT_.out HW_.out (by kernel_rfl)) (fun _ _ _ h => h) (Or.inl ⟨by rfl, ?_⟩) hHeld ?_ ?_
  rotate_left
  · intro w' hS'
    have hx := hS'.1 (w.heap.size + 1, .cells #[.int .i64 g, .slice A l.length c] 106 (0, 0)) (by simp)
    have c0 : w'.cell? ⟨w.heap.size + 1, 0, none⟩ = some (.int .i64 g) := by rw [cell_of_row w' _ 0 _ _ _ hx]; rfl
    go_simp
    try with_reducible rfl
  rotate_left
  · simp only [Act.put, List.setIfInBounds_toArray, List.set_cons_zero, List.set_cons_succ]
    rfl
  refine take_ (i := 3) (N := some 35) (v := ?_) (a' := ?_) #[true, true, true, true, false, false, false] rfl rfl (take_ofW HT_.out HW_.out (by kernel_rfl)) (fun _ _ _ h => h) (Or.inl ⟨by rfl, ?_⟩) hHeld ?_ ?_
  rotate_left
  · intro w' hS'
    have hx := hS'.1 (w.heap.size + 1, .cells #[.int .i64 g, .slice A l.length c] 106 (0, 0)) (by simp)
    have c0 : w'.cell? ⟨w.heap.size + 1, 1, none⟩ = some (.slice A l.length c) := by rw [cell_of_row w' _ 1 _ _ _ hx]; rfl
    go_simp
    try with_reducible rfl
  rotate_left
  · simp only [Act.put, List.setIfInBounds_toArray, List.set_cons_zero, List.set_cons_succ]
    rfl
  refine one_ (i := 4) (N := some 36) #[true, true, true, true, true, false, false] rfl rfl (one_of HT_.out (by kernel_rfl)) (by decide) (fun K hK => ?_)
  refine goes_ Try.func147 (by kernel_rfl) rfl #[.slice A l.length c] (by rfl) rfl rfl (by simp [Act.eval]) ?_
  refine (Clone_fn A c l _ (Kd.C_below HC0.out hHeld.2) hl0 hl).mono ?_
  rintro e w4 ⟨v, rfl, hRv, hb⟩
  refine ⟨_, rfl, ?_⟩
  simp only [Act.put, List.setIfInBounds_toArray, List.set_cons_zero, List.set_cons_succ]
  obtain ⟨Av, cv, ev⟩ := Kd.R_slice hRv
  subst ev
  have HRF := Aside0.mk (Kd.R_lower hRv hHeld.2.size)
  clear hRv
  refine hK.out _ _ (hHeld.step hb) (fun hHeld => ?_)
  clear hK K
  refine pure_ (i := 5) (N := some 37) (v := ?_) (a' := ?_) #[true, true, true, true, true, true, false] rfl rfl (any_of HT_.out (by kernel_rfl)) (fun _ _ _ h => h) (Or.inl ⟨by rfl, ?_⟩) ?_ ?_
  rotate_left
  · intro w'
    go_simp
    try with_reducible rfl
  rotate_left
  · simp only [Act.put, List.setIfInBounds_toArray, List.set_cons_zero, List.set_cons_succ]
    rfl
  refine last_ (i := 6) (N := none) #[true, true, true, true, true, true, true] rfl rfl (one_of HT_.out (by kernel_rfl)) (by decide) (fun K hK => ?_)
  rw [if_pos (by rfl)]
  refine wp_store_blk 106 _ _ rfl (w.heap.size + 1 + 1) 0 #[.int .i64 0, .slice none 0 0] 106 #[.int .i64 g, .slice Av l.length cv] rfl rfl (hHeld.1 (w.heap.size + 1 + 1, .cells #[.int .i64 0, .slice none 0 0] 106 (0, 0)) (by simp)) (by simp) infoSums (by simp [Value.oneCell']) ?_
  intro w9 hx9 ho9
  show K (Act.put _ none _) _
  simp only [Act.put]
  refine hK.out _ _ ?_
  clear hK K
  refine done_ (done_of HT_.out (by kernel_rfl)) ?_
  have HF := Aside0.mk (And.intro (R_only HRF.out (hHeld.1 (w.heap.size + 1 + 1, .cells #[.int .i64 0, .slice none 0 0] 106 (0, 0)) (by simp)) (by decide) ho9) (And.intro (hHeld.2.trans (ho9.below (by omega))) hx9))
  clear hHeld HT_ HW_ hx9 ho9
  go_wp2_with fail
  exact ⟨rfl, _, results_cell rfl _ _ (w.heap.size + 1 + 1) 106 _ _ _ rfl HF.out.2.2 Try.underlying106 rfl infoSums, _, rfl, HF.out.1, HF.out.2.1⟩
end Go.Proofs.Ytnodnpenlplleaa.Own
