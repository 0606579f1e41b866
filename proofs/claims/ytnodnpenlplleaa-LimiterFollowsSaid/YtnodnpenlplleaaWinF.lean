/- Layer 8, the window, where the policy may be: may a cost be taken; what is there when it is. -/
import Derived.Test.YtnodnpenlplleaaWinE
namespace Go.Proofs.Ytnodnpenlplleaa.Own
open Go.RowKit Go.Proofs.YtnodnpenlplleaaW.PrintWords Go.Proofs.YtnodnpenlplleaaW.PrintLast Go.Proofs.YtnodnpenlplleaaW.PrintMore
set_option linter.unusedVariables false
set_option linter.unusedSimpArgs false
attribute [local go_sem] Oper.semAt_some max2_int min2_int max_two min_two
def wmayP__T1 : Bool × List (List Nat × List Nat) := (true, [([], []), ([0], [0]), ([1, 1], [1]), ([2], [2]), ([3, 2, 2], [2, 3]), ([2, 4], [2, 4]), ([5, 4], [5]), ([6], [6]), ([6], [6]), ([7, 8, 6, 6], [6, 7, 8]), ([9, 9, 6], [6, 9]), ([6], [6]), ([10, 11, 6], [6, 10, 11]), ([6], [6]), ([13, 6], [6, 13]), ([12, 14, 6], [6, 12, 14]), ([6, 15], [6, 15]), ([16, 10, 0, 1, 2, 3, 4, 5, 6, 7, 8, 9, 10, 11, 12, 13, 14, 15, 16], [16])])
def wmayP__B1 : List Nat := [0, 1, 3, 7, 15, 31, 63, 127, 127, 511, 1023, 127, 4095, 127, 8319, 32767, 65535, 131071]
theorem wmayP__tab1 : rtab .any (opsOf Try.f141 1) = wmayP__T1 := by kernel_rfl
theorem wmayP__bits1 : waitsOk wmayP__T1.2 wmayP__B1 = true := by kernel_rfl

/-- A cost more in the last place. -/
def takeL (l : List Int) (cost : Int) : List Int := l.set (l.length - 1) (mn (rd l ((l.length - 1 : Nat) : Int) + cost) 1099511627776)

set_option maxRecDepth 100000 in
set_option maxHeartbeats 1000000 in
theorem MayW_fn (p : Pol) (g cost : Int) (A : Option Addr) (c : Nat) (l : List Int) (w : World) (hp : p.ok) (hk : p.kind = 2) (hr : Kd.C (Kd.int .i64) w A l.length l) (hw : okW p g l) :
    Calls Try.prog 141 #[p.val, .agg #[.int .i64 g, .slice A l.length c], .int .i64 cost] w fun e w' => e = .returned (.bool (decide ((1 ≤ cost ∧ cost ≤ 1048576) ∧ sumI l + cost ≤ p.cap))) ∧ Below w.heap.size w w' := by
  have HM := Aside0.mk (fun w' => wmeans_fn p w' hp hk)
  have HCO := Aside0.mk (fun w' hr' => counts_fn p g A c l w' hp hk hr' hw)
  have hpi := Pol.is hp
  obtain ⟨kind, cap, num, den, width, count, keys, slots, every, seg⟩ := p
  simp only at hk hpi
  subst hk
  obtain ⟨hw1, hw2, hw3, hok⟩ := hw
  simp only [Pol.val, Pol.cells] at HM HCO hw2 hw3 ⊢
  have hl : l.length ≤ 32 := by omega
  have hsb := sumI_bound hok
  have HC0 := Aside0.mk hr
  have HS1 := Aside0.mk (((HeldB.one (w0 := w) (x := (w.heap.size, .cells #[.int .i64 2, .int .i64 cap, .int .i64 num, .int .i64 den, .int .i64 width, .int .i64 count, .int .i64 keys, .int .i64 slots, .int .i64 every, .int .i64 seg] 23 (0, 0))) (heap_alloc_new w _) ((Below.refl _ w).alloc (Nat.le_refl _) _)).step ((Below.refl _ _).alloc (Nat.le_refl _) _)).more (x := (w.heap.size + 1, .cells #[.int .i64 g, .slice A l.length c] 106 (0, 0))) (by have := heap_alloc_new (w.alloc (.cells #[.int .i64 2, .int .i64 cap, .int .i64 num, .int .i64 den, .int .i64 width, .int .i64 count, .int .i64 keys, .int .i64 slots, .int .i64 every, .int .i64 seg] 23 (0, 0))) (.cells #[.int .i64 g, .slice A l.length c] 106 (0, 0)); simpa using this))
  by_cases hd : 1 ≤ cost ∧ cost ≤ 1048576
  · have HD := Aside0.mk (decide_eq_true hd)
    have x3 : IntKind.i64.wrap (sumI l + cost) = sumI l + cost := IntWalk.i64_in _ (by omega)
    have hres : decide ((1 ≤ cost ∧ cost ≤ 1048576) ∧ sumI l + cost ≤ cap) = decide (sumI l + cost ≤ cap) := by simp [hd]
    simp only [hres]
    clear hpi hp hres hw1 hw2 hw3 hr
    go_enter Try.func141, Try.ntmps141
    go_wp2_with fail
    refine start_ (n := 18) (S := HeldB w [(w.heap.size + 1, .cells #[.int .i64 g, .slice A l.length c] 106 (0, 0)), (w.heap.size, .cells #[.int .i64 2, .int .i64 cap, .int .i64 num, .int .i64 den, .int .i64 width, .int .i64 count, .int .i64 keys, .int .i64 slots, .int .i64 every, .int .i64 seg] 23 (0, 0))]) (ds := []) #[false, false, false, false, false, false, false, false, false, false, false, false, false, false, false, false, false, false] (by kernel_rfl) rfl rfl (HS1.out.drew) (fun hHeld => ?_); refine with_tabW wmayP__tab1 wmayP__bits1 (fun HT_ HW_ => ?_)
    refine take_ (i := 0) (N := some 7) (v := .agg #[.int .i64 2, .int .i64 cap, .int .i64 num, .int .i64 den, .int .i64 width, .int .i64 count, .int .i64 keys, .int .i64 slots, .int .i64 every, .int .i64 seg]) (a' := ?_) #[true, false, false, false, false, false, false, false, false, false, false, false, false, false, false, false, false, false] rfl rfl (take_ofW HT_.out HW_.out (by kernel_rfl)) (fun _ _ _ h => h) (yields_blk (by rfl) 23 _ rfl w.heap.size rfl (fun w' hS' => hS'.1 (w.heap.size, .cells #[.int .i64 2, .int .i64 cap, .int .i64 num, .int .i64 den, .int .i64 width, .int .i64 count, .int .i64 keys, .int .i64 slots, .int .i64 every, .int .i64 seg] 23 (0, 0)) (by simp)) Try.underlying23 rfl infoPol) hHeld ?_ ?_
    rotate_left
    · simp only [Act.put, List.setIfInBounds_toArray, List.set_cons_zero, List.set_cons_succ]
      rfl
    refine one_ (i := 1) (N := some 8) #[true, true, false, false, false, false, false, false, false, false, false, false, false, false, false, false, false, false] rfl rfl (one_of HT_.out (by kernel_rfl)) (by decide) (fun K hK => ?_)
    refine goes_ Try.func87 (by kernel_rfl) rfl #[.agg #[.int .i64 2, .int .i64 cap, .int .i64 num, .int .i64 den, .int .i64 width, .int .i64 count, .int .i64 keys, .int .i64 slots, .int .i64 every, .int .i64 seg]] (by rfl) rfl rfl (by simp [Act.eval]) ?_
    refine (HM.out _).mono ?_
    rintro e w1 ⟨rfl, hb⟩
    refine ⟨_, rfl, ?_⟩
    simp only [Act.put, List.setIfInBounds_toArray, List.set_cons_zero, List.set_cons_succ]
    refine hK.out _ _ (hHeld.step hb) (fun hHeld => ?_)
    clear hK K
    refine pure_ (i := 2) (N := some 9) (v := ?_) (a' := ?_) #[true, true, true, false, false, false, false, false, false, false, false, false, false, false, false, false, false, false] rfl rfl (any_of HT_.out (by kernel_rfl)) (fun _ _ _ h => h) (Or.inl ⟨by rfl, ?_⟩) ?_ ?_
    rotate_left
    · intro w'
      go_simp
      try with_reducible rfl
    rotate_left
    · simp only [Act.put, List.setIfInBounds_toArray, List.set_cons_zero, List.set_cons_succ]
      rfl
    refine pure_ (i := 3) (N := some 10) (v := ?_) (a' := ?_) #[true, true, true, true, false, false, false, false, false, false, false, false, false, false, false, false, false, false] rfl rfl (any_of HT_.out (by kernel_rfl)) (fun _ _ _ h => h) (Or.inl ⟨by rfl, ?_⟩) ?_ ?_
    rotate_left
    · intro w'
      go_simp
      try with_reducible rfl
    rotate_left
    · simp only [Act.put, List.setIfInBounds_toArray, List.set_cons_zero, List.set_cons_succ]
      rfl
    refine one_ (i := 4) (N := some 11) #[true, true, true, true, true, false, false, false, false, false, false, false, false, false, false, false, false, false] rfl rfl (one_of HT_.out (by kernel_rfl)) (by decide) (fun K hK => ?_)
    refine goes_ Try.func144 (by kernel_rfl) rfl #[.int .i64 cost] (by rfl) rfl rfl (by simp [Act.eval]) ?_
    refine (wmay_fn cost _).mono ?_
    rintro e w2 ⟨rfl, hw2⟩
    refine ⟨_, rfl, ?_⟩
    simp only [Act.put, List.setIfInBounds_toArray, List.set_cons_zero, List.set_cons_succ]
    rw [HD.out, hw2]
    clear hw2 w2
    refine hK.out _ _ (hHeld) (fun hHeld => ?_)
    clear hK K
    refine pure_ (i := 5) (N := some 12) (v := ?_) (a' := ?_) #[true, true, true, true, true, true, false, false, false, false, false, false, false, false, false, false, false, false] rfl rfl (any_of HT_.out (by kernel_rfl)) (fun _ _ _ h => h) (Or.inl ⟨by rfl, ?_⟩) ?_ ?_
    rotate_left
    · intro w'
      go_simp
      try with_reducible rfl
    rotate_left
    · simp only [Act.put, List.setIfInBounds_toArray, List.set_cons_zero, List.set_cons_succ]
      rfl
    refine pure_ (i := 6) (N := some 13) (v := ?_) (a' := ?_) #[true, true, true, true, true, true, true, false, false, false, false, false, false, false, false, false, false, false] rfl rfl (any_of HT_.out (by kernel_rfl)) (fun _ _ _ h => h) (Or.inl ⟨by rfl, ?_⟩) ?_ ?_
    rotate_left
    · intro w'
      go_simp
      try with_reducible rfl
    rotate_left
    · simp only [Act.put, List.setIfInBounds_toArray, List.set_cons_zero, List.set_cons_succ]
      rfl
    refine pure_ (i := 11) (N := some 18) (v := ?_) (a' := ?_) #[true, true, true, true, true, true, true, false, false, false, false, true, false, false, false, false, false, false] rfl rfl (any_of HT_.out (by kernel_rfl)) (fun _ _ _ h => h) (Or.inl ⟨by rfl, ?_⟩) ?_ ?_
    rotate_left
    · intro w'
      go_simp
      try with_reducible rfl
    rotate_left
    · simp only [Act.put, List.setIfInBounds_toArray, List.set_cons_zero, List.set_cons_succ]
      rfl
    refine pure_ (i := 13) (N := some 20) (v := ?_) (a' := ?_) #[true, true, true, true, true, true, true, false, false, false, false, true, false, true, false, false, false, false] rfl rfl (any_of HT_.out (by kernel_rfl)) (fun _ _ _ h => h) (Or.inl ⟨by rfl, ?_⟩) ?_ ?_
    rotate_left
    · intro w'
      go_simp
      try with_reducible rfl
    rotate_left
    · simp only [Act.put, List.setIfInBounds_toArray, List.set_cons_zero, List.set_cons_succ]
      rfl
    refine take_ (i := 7) (N := some 14) (v := .agg #[.int .i64 2, .int .i64 cap, .int .i64 num, .int .i64 den, .int .i64 width, .int .i64 count, .int .i64 keys, .int .i64 slots, .int .i64 every, .int .i64 seg]) (a' := ?_) #[true, true, true, true, true, true, true, true, false, false, false, true, false, true, false, false, false, false] rfl rfl (take_ofW HT_.out HW_.out (by kernel_rfl)) (fun _ _ _ h => h) (yields_blk (by rfl) 23 _ rfl w.heap.size rfl (fun w' hS' => hS'.1 (w.heap.size, .cells #[.int .i64 2, .int .i64 cap, .int .i64 num, .int .i64 den, .int .i64 width, .int .i64 count, .int .i64 keys, .int .i64 slots, .int .i64 every, .int .i64 seg] 23 (0, 0)) (by simp)) Try.underlying23 rfl infoPol) hHeld ?_ ?_
    rotate_left
    · simp only [Act.put, List.setIfInBounds_toArray, List.set_cons_zero, List.set_cons_succ]
      rfl
    refine take_ (i := 8) (N := some 15) (v := .agg #[.int .i64 g, .slice A l.length c]) (a' := ?_) #[true, true, true, true, true, true, true, true, true, false, false, true, false, true, false, false, false, false] rfl rfl (take_ofW HT_.out HW_.out (by kernel_rfl)) (fun _ _ _ h => h) (yields_blk (by rfl) 106 _ rfl (w.heap.size + 1) rfl (fun w' hS' => hS'.1 (w.heap.size + 1, .cells #[.int .i64 g, .slice A l.length c] 106 (0, 0)) (by simp)) Try.underlying106 rfl infoSums) hHeld ?_ ?_
    rotate_left
    · simp only [Act.put, List.setIfInBounds_toArray, List.set_cons_zero, List.set_cons_succ]
      rfl
    refine take_ (i := 14) (N := some 21) (v := ?_) (a' := ?_) #[true, true, true, true, true, true, true, true, true, false, false, true, false, true, true, false, false, false] rfl rfl (take_ofW HT_.out HW_.out (by kernel_rfl)) (fun _ _ _ h => h) (Or.inl ⟨by rfl, ?_⟩) hHeld ?_ ?_
    rotate_left
    · intro w' hS'
      have hx := hS'.1 (w.heap.size, .cells #[.int .i64 2, .int .i64 cap, .int .i64 num, .int .i64 den, .int .i64 width, .int .i64 count, .int .i64 keys, .int .i64 slots, .int .i64 every, .int .i64 seg] 23 (0, 0)) (by simp)
      have c0 : w'.cell? ⟨w.heap.size, 1, none⟩ = some (.int .i64 cap) := by rw [cell_of_row w' _ 1 _ _ _ hx]; rfl
      go_simp
      try with_reducible rfl
    rotate_left
    · simp only [Act.put, List.setIfInBounds_toArray, List.set_cons_zero, List.set_cons_succ]
      rfl
    refine one_ (i := 9) (N := some 16) #[true, true, true, true, true, true, true, true, true, true, false, true, false, true, true, false, false, false] rfl rfl (one_of HT_.out (by kernel_rfl)) (by decide) (fun K hK => ?_)
    refine goes_ Try.func143 (by kernel_rfl) rfl #[.agg #[.int .i64 2, .int .i64 cap, .int .i64 num, .int .i64 den, .int .i64 width, .int .i64 count, .int .i64 keys, .int .i64 slots, .int .i64 every, .int .i64 seg], .agg #[.int .i64 g, .slice A l.length c]] (by rfl) rfl rfl (by simp [Act.eval]) ?_
    refine (HCO.out _ (Kd.C_below HC0.out hHeld.2)).mono ?_
    rintro e w3 ⟨v, rfl, hRv, hb⟩
    refine ⟨_, rfl, ?_⟩
    simp only [Act.put, List.setIfInBounds_toArray, List.set_cons_zero, List.set_cons_succ]
    obtain ⟨Av, cv, ev, hcv, hCv⟩ := Kd.R_reads hRv
    subst ev
    have HCV := Aside0.mk hCv
    clear hRv hCv
    refine hK.out _ _ (hHeld.step hb) (fun hHeld => ?_)
    clear hK K
    refine one_ (i := 10) (N := some 17) #[true, true, true, true, true, true, true, true, true, true, true, true, false, true, true, false, false, false] rfl rfl (one_of HT_.out (by kernel_rfl)) (by decide) (fun K hK => ?_)
    refine goes_ Try.func145 (by kernel_rfl) rfl #[.agg #[.int .i64 g, .slice Av l.length cv]] (by rfl) rfl rfl (by simp [Act.eval]) ?_
    refine (Total_fn g Av cv l _ HCV.out hl hok).mono ?_
    rintro e w4 ⟨rfl, hb⟩
    refine ⟨_, rfl, ?_⟩
    simp only [Act.put, List.setIfInBounds_toArray, List.set_cons_zero, List.set_cons_succ]
    refine hK.out _ _ (hHeld.step hb) (fun hHeld => ?_)
    clear hK K
    refine pure_ (i := 12) (N := some 19) (v := ?_) (a' := ?_) #[true, true, true, true, true, true, true, true, true, true, true, true, true, true, true, false, false, false] rfl rfl (any_of HT_.out (by kernel_rfl)) (fun _ _ _ h => h) (Or.inl ⟨by rfl, ?_⟩) ?_ ?_
    rotate_left
    · intro w'
      go_simp
      try with_reducible rfl
    rotate_left
    · simp only [Act.put, List.setIfInBounds_toArray, List.set_cons_zero, List.set_cons_succ]
      rfl
    refine pure_ (i := 15) (N := some 22) (v := ?_) (a' := ?_) #[true, true, true, true, true, true, true, true, true, true, true, true, true, true, true, true, false, false] rfl rfl (any_of HT_.out (by kernel_rfl)) (fun _ _ _ h => h) (Or.inl ⟨by rfl, ?_⟩) ?_ ?_
    rotate_left
    · intro w'
      go_simp
      try with_reducible rfl
    rotate_left
    · simp only [Act.put, List.setIfInBounds_toArray, List.set_cons_zero, List.set_cons_succ]
      rfl
    refine pure_ (i := 16) (N := some 23) (v := ?_) (a' := ?_) #[true, true, true, true, true, true, true, true, true, true, true, true, true, true, true, true, true, false] rfl rfl (any_of HT_.out (by kernel_rfl)) (fun _ _ _ h => h) (Or.inl ⟨by rfl, ?_⟩) ?_ ?_
    rotate_left
    · intro w'
      go_simp
      try with_reducible rfl
    rotate_left
    · simp only [Act.put, List.setIfInBounds_toArray, List.set_cons_zero, List.set_cons_succ]
      rfl
    refine pure_ (i := 17) (N := some 6) (v := ?_) (a' := ?_) #[true, true, true, true, true, true, true, true, true, true, true, true, true, true, true, true, true, true] rfl rfl (any_of HT_.out (by kernel_rfl)) (fun _ _ _ h => h) (Or.inl ⟨by rfl, ?_⟩) ?_ ?_
    rotate_left
    · intro w'
      go_simp
      try with_reducible rfl
    rotate_left
    · simp only [Act.put, List.setIfInBounds_toArray, List.set_cons_zero, List.set_cons_succ]
      rfl
    refine done_ (done_of HT_.out (by kernel_rfl)) ?_
    have HB := Aside0.mk hHeld.2
    clear hHeld HT_ HW_
    go_wp2_with fail
    go_ret
    exact ⟨rfl, HB.out⟩
  · have HD := Aside0.mk (decide_eq_false hd)
    have hres : decide ((1 ≤ cost ∧ cost ≤ 1048576) ∧ sumI l + cost ≤ cap) = false := decide_eq_false (fun h => hd h.1)
    simp only [hres]
    clear hpi hp hres hw1 hw2 hw3 hr
    go_enter Try.func141, Try.ntmps141
    go_wp2_with fail
    refine start_ (n := 18) (S := HeldB w [(w.heap.size + 1, .cells #[.int .i64 g, .slice A l.length c] 106 (0, 0)), (w.heap.size, .cells #[.int .i64 2, .int .i64 cap, .int .i64 num, .int .i64 den, .int .i64 width, .int .i64 count, .int .i64 keys, .int .i64 slots, .int .i64 every, .int .i64 seg] 23 (0, 0))]) (ds := []) #[false, false, false, false, false, false, false, false, false, false, false, false, false, false, false, false, false, false] (by kernel_rfl) rfl rfl (HS1.out.drew) (fun hHeld => ?_); refine with_tabW wmayP__tab1 wmayP__bits1 (fun HT_ HW_ => ?_)
    refine take_ (i := 0) (N := some 7) (v := .agg #[.int .i64 2, .int .i64 cap, .int .i64 num, .int .i64 den, .int .i64 width, .int .i64 count, .int .i64 keys, .int .i64 slots, .int .i64 every, .int .i64 seg]) (a' := ?_) #[true, false, false, false, false, false, false, false, false, false, false, false, false, false, false, false, false, false] rfl rfl (take_ofW HT_.out HW_.out (by kernel_rfl)) (fun _ _ _ h => h) (yields_blk (by rfl) 23 _ rfl w.heap.size rfl (fun w' hS' => hS'.1 (w.heap.size, .cells #[.int .i64 2, .int .i64 cap, .int .i64 num, .int .i64 den, .int .i64 width, .int .i64 count, .int .i64 keys, .int .i64 slots, .int .i64 every, .int .i64 seg] 23 (0, 0)) (by simp)) Try.underlying23 rfl infoPol) hHeld ?_ ?_
    rotate_left
    · simp only [Act.put, List.setIfInBounds_toArray, List.set_cons_zero, List.set_cons_succ]
      rfl
    refine one_ (i := 1) (N := some 8) #[true, true, false, false, false, false, false, false, false, false, false, false, false, false, false, false, false, false] rfl rfl (one_of HT_.out (by kernel_rfl)) (by decide) (fun K hK => ?_)
    refine goes_ Try.func87 (by kernel_rfl) rfl #[.agg #[.int .i64 2, .int .i64 cap, .int .i64 num, .int .i64 den, .int .i64 width, .int .i64 count, .int .i64 keys, .int .i64 slots, .int .i64 every, .int .i64 seg]] (by rfl) rfl rfl (by simp [Act.eval]) ?_
    refine (HM.out _).mono ?_
    rintro e w1 ⟨rfl, hb⟩
    refine ⟨_, rfl, ?_⟩
    simp only [Act.put, List.setIfInBounds_toArray, List.set_cons_zero, List.set_cons_succ]
    refine hK.out _ _ (hHeld.step hb) (fun hHeld => ?_)
    clear hK K
    refine pure_ (i := 2) (N := some 9) (v := ?_) (a' := ?_) #[true, true, true, false, false, false, false, false, false, false, false, false, false, false, false, false, false, false] rfl rfl (any_of HT_.out (by kernel_rfl)) (fun _ _ _ h => h) (Or.inl ⟨by rfl, ?_⟩) ?_ ?_
    rotate_left
    · intro w'
      go_simp
      try with_reducible rfl
    rotate_left
    · simp only [Act.put, List.setIfInBounds_toArray, List.set_cons_zero, List.set_cons_succ]
      rfl
    refine pure_ (i := 3) (N := some 10) (v := ?_) (a' := ?_) #[true, true, true, true, false, false, false, false, false, false, false, false, false, false, false, false, false, false] rfl rfl (any_of HT_.out (by kernel_rfl)) (fun _ _ _ h => h) (Or.inl ⟨by rfl, ?_⟩) ?_ ?_
    rotate_left
    · intro w'
      go_simp
      try with_reducible rfl
    rotate_left
    · simp only [Act.put, List.setIfInBounds_toArray, List.set_cons_zero, List.set_cons_succ]
      rfl
    refine one_ (i := 4) (N := some 11) #[true, true, true, true, true, false, false, false, false, false, false, false, false, false, false, false, false, false] rfl rfl (one_of HT_.out (by kernel_rfl)) (by decide) (fun K hK => ?_)
    refine goes_ Try.func144 (by kernel_rfl) rfl #[.int .i64 cost] (by rfl) rfl rfl (by simp [Act.eval]) ?_
    refine (wmay_fn cost _).mono ?_
    rintro e w2 ⟨rfl, hw2⟩
    refine ⟨_, rfl, ?_⟩
    simp only [Act.put, List.setIfInBounds_toArray, List.set_cons_zero, List.set_cons_succ]
    rw [HD.out, hw2]
    clear hw2 w2
    refine hK.out _ _ (hHeld) (fun hHeld => ?_)
    clear hK K
    refine pure_ (i := 5) (N := some 12) (v := ?_) (a' := ?_) #[true, true, true, true, true, true, false, false, false, false, false, false, false, false, false, false, false, false] rfl rfl (any_of HT_.out (by kernel_rfl)) (fun _ _ _ h => h) (Or.inl ⟨by rfl, ?_⟩) ?_ ?_
    rotate_left
    · intro w'
      go_simp
      try with_reducible rfl
    rotate_left
    · simp only [Act.put, List.setIfInBounds_toArray, List.set_cons_zero, List.set_cons_succ]
      rfl
    refine pure_ (i := 6) (N := some 13) (v := ?_) (a' := ?_) #[true, true, true, true, true, true, true, false, false, false, false, false, false, false, false, false, false, false] rfl rfl (any_of HT_.out (by kernel_rfl)) (fun _ _ _ h => h) (Or.inl ⟨by rfl, ?_⟩) ?_ ?_
    rotate_left
    · intro w'
      go_simp
      try with_reducible rfl
    rotate_left
    · simp only [Act.put, List.setIfInBounds_toArray, List.set_cons_zero, List.set_cons_succ]
      rfl
    refine pure_ (i := 7) (N := some 14) (v := undef) (a' := ?_) #[true, true, true, true, true, true, true, true, false, false, false, false, false, false, false, false, false, false] rfl rfl (any_of HT_.out (by kernel_rfl)) (fun _ _ _ h => h) (Or.inr ⟨by rfl, rfl⟩) ?_ ?_
    rotate_left
    · simp only [Act.put, List.setIfInBounds_toArray, List.set_cons_zero, List.set_cons_succ]
      rfl
    refine pure_ (i := 8) (N := some 15) (v := undef) (a' := ?_) #[true, true, true, true, true, true, true, true, true, false, false, false, false, false, false, false, false, false] rfl rfl (any_of HT_.out (by kernel_rfl)) (fun _ _ _ h => h) (Or.inr ⟨by rfl, rfl⟩) ?_ ?_
    rotate_left
    · simp only [Act.put, List.setIfInBounds_toArray, List.set_cons_zero, List.set_cons_succ]
      rfl
    refine pure_ (i := 11) (N := some 18) (v := undef) (a' := ?_) #[true, true, true, true, true, true, true, true, true, false, false, true, false, false, false, false, false, false] rfl rfl (any_of HT_.out (by kernel_rfl)) (fun _ _ _ h => h) (Or.inr ⟨by rfl, rfl⟩) ?_ ?_
    rotate_left
    · simp only [Act.put, List.setIfInBounds_toArray, List.set_cons_zero, List.set_cons_succ]
      rfl
    refine pure_ (i := 13) (N := some 20) (v := undef) (a' := ?_) #[true, true, true, true, true, true, true, true, true, false, false, true, false, true, false, false, false, false] rfl rfl (any_of HT_.out (by kernel_rfl)) (fun _ _ _ h => h) (Or.inr ⟨by rfl, rfl⟩) ?_ ?_
    rotate_left
    · simp only [Act.put, List.setIfInBounds_toArray, List.set_cons_zero, List.set_cons_succ]
      rfl
    refine pure_ (i := 9) (N := some 16) (v := undef) (a' := ?_) #[true, true, true, true, true, true, true, true, true, true, false, true, false, true, false, false, false, false] rfl rfl (any_of HT_.out (by kernel_rfl)) (fun _ _ _ h => h) (Or.inr ⟨by rfl, rfl⟩) ?_ ?_
    rotate_left
    · simp only [Act.put, List.setIfInBounds_toArray, List.set_cons_zero, List.set_cons_succ]
      rfl
    refine pure_ (i := 14) (N := some 21) (v := undef) (a' := ?_) #[true, true, true, true, true, true, true, true, true, true, false, true, false, true, true, false, false, false] rfl rfl (any_of HT_.out (by kernel_rfl)) (fun _ _ _ h => h) (Or.inr ⟨by rfl, rfl⟩) ?_ ?_
    rotate_left
    · simp only [Act.put, List.setIfInBounds_toArray, List.set_cons_zero, List.set_cons_succ]
      rfl
    refine pure_ (i := 10) (N := some 17) (v := undef) (a' := ?_) #[true, true, true, true, true, true, true, true, true, true, true, true, false, true, true, false, false, false] rfl rfl (any_of HT_.out (by kernel_rfl)) (fun _ _ _ h => h) (Or.inr ⟨by rfl, rfl⟩) ?_ ?_
    rotate_left
    · simp only [Act.put, List.setIfInBounds_toArray, List.set_cons_zero, List.set_cons_succ]
      rfl
    refine pure_ (i := 12) (N := some 19) (v := undef) (a' := ?_) #[true, true, true, true, true, true, true, true, true, true, true, true, true, true, true, false, false, false] rfl rfl (any_of HT_.out (by kernel_rfl)) (fun _ _ _ h => h) (Or.inr ⟨by rfl, rfl⟩) ?_ ?_
    rotate_left
    · simp only [Act.put, List.setIfInBounds_toArray, List.set_cons_zero, List.set_cons_succ]
      rfl
    refine pure_ (i := 15) (N := some 22) (v := undef) (a' := ?_) #[true, true, true, true, true, true, true, true, true, true, true, true, true, true, true, true, false, false] rfl rfl (any_of HT_.out (by kernel_rfl)) (fun _ _ _ h => h) (Or.inr ⟨by rfl, rfl⟩) ?_ ?_
    rotate_left
    · simp only [Act.put, List.setIfInBounds_toArray, List.set_cons_zero, List.set_cons_succ]
      rfl
    refine pure_ (i := 16) (N := some 23) (v := ?_) (a' := ?_) #[true, true, true, true, true, true, true, true, true, true, true, true, true, true, true, true, true, false] rfl rfl (any_of HT_.out (by kernel_rfl)) (fun _ _ _ h => h) (Or.inl ⟨by rfl, ?_⟩) ?_ ?_
    rotate_left
    · intro w'
      go_simp
      try with_reducible rfl
    rotate_left
    · simp only [Act.put, List.setIfInBounds_toArray, List.set_cons_zero, List.set_cons_succ]
      rfl
    refine pure_ (i := 17) (N := some 6) (v := ?_) (a' := ?_) #[true, true, true, true, true, true, true, true, true, true, true, true, true, true, true, true, true, true] rfl rfl (any_of HT_.out (by kernel_rfl)) (fun _ _ _ h => h) (Or.inl ⟨by rfl, ?_⟩) ?_ ?_
    rotate_left
    · intro w'
      go_simp
      try with_reducible rfl
    rotate_left
    · simp only [Act.put, List.setIfInBounds_toArray, List.set_cons_zero, List.set_cons_succ]
      rfl
    refine done_ (done_of HT_.out (by kernel_rfl)) ?_
    have HB := Aside0.mk hHeld.2
    clear hHeld HT_ HW_
    go_wp2_with fail
    go_ret
    exact ⟨rfl, HB.out⟩

set_option maxRecDepth 100000 in
set_option maxHeartbeats 600000 in
theorem TakeW_fn (p : Pol) (g cost : Int) (A : Option Addr) (c : Nat) (l : List Int) (w : World) (hp : p.ok) (hk : p.kind = 2) (hr : Kd.C (Kd.int .i64) w A l.length l) (hw : okW p g l) (h0 : 1 ≤ cost) (h1 : cost ≤ 1048576) :
    Calls Try.prog 142 #[p.val, .agg #[.int .i64 g, .slice A l.length c], .int .i64 cost] w fun e w' =>
      ∃ v, e = .returned (.agg #[.int .i64 g, v]) ∧ Kd.R (Kd.int .i64) 3 w' w.heap.size (fun _ => True) v (takeL l cost) ∧ Below w.heap.size w w' := by
  have HM := Aside0.mk (fun w' => wmeans_fn p w' hp hk)
  have HCO := Aside0.mk (fun w' hr' => counts_fn p g A c l w' hp hk hr' hw)
  have hpi := Pol.is hp
  obtain ⟨kind, cap, num, den, width, count, keys, slots, every, seg⟩ := p
  simp only at hk hpi
  subst hk
  obtain ⟨hw1, hw2, hw3, hw4⟩ := hw
  simp only [Pol.val, Pol.cells] at HM HCO hw2 hw3 ⊢
  have hl0 : 0 < l.length := by omega
  have hl : l.length ≤ 32 := by omega
  have HC0 := Aside0.mk hr
  have HD := Aside0.mk (show decide (1 ≤ cost ∧ cost ≤ 1048576) = true from decide_eq_true ⟨h0, h1⟩)
  obtain ⟨j, hj⟩ : ∃ j, l.length = j + 1 := ⟨l.length - 1, by omega⟩
  have hx := hw4 _ (rd_memI l (j := j) (by omega))
  have HT := Aside0.mk (show takeL l cost = l.set j (mn (rd l (j : Int) + cost) 1099511627776) from by unfold takeL; rw [hj, Nat.add_sub_cancel])
  obtain ⟨x, hxx⟩ : ∃ x, rd l (j : Int) = x := ⟨_, rfl⟩
  rw [hxx] at hx HT
  have HXX := Aside0.mk hxx
  clear hxx
  obtain ⟨x0, x1⟩ := hx
  have e1 : IntKind.i64.wrap (count - 1) = (j : Int) := by rw [IntWalk.i64_in _ (by omega)]; omega
  obtain ⟨W0, hW0⟩ : ∃ W0, ((w.alloc (.cells #[.int .i64 2, .int .i64 cap, .int .i64 num, .int .i64 den, .int .i64 width, .int .i64 count, .int .i64 keys, .int .i64 slots, .int .i64 every, .int .i64 seg] 23 (0, 0))).alloc (.cells #[.int .i64 g, .slice A l.length c] 106 (0, 0))).alloc (.cells #[.int .i64 0, .slice none 0 0] 106 (0, 0)) = W0 := ⟨_, rfl⟩
  have hb0 : Below w.heap.size w W0 := by rw [← hW0]; exact (((Below.refl _ w).alloc (Nat.le_refl _) _).alloc (by simp) _).alloc (by simp; omega) _
  have hs0 : W0.heap.size = w.heap.size + 1 + 1 + 1 := by rw [← hW0]; simp
  have hp0 : W0.heap[w.heap.size]? = some (.cells #[.int .i64 2, .int .i64 cap, .int .i64 num, .int .i64 den, .int .i64 width, .int .i64 count, .int .i64 keys, .int .i64 slots, .int .i64 every, .int .i64 seg] 23 (0, 0)) := by
    rw [← hW0]; exact ((((Below.refl (w.heap.size + 1) _).alloc (by simp) _).alloc (by simp) _).block _ (by omega)).trans (heap_alloc_new w _)
  have hx0 : W0.heap[w.heap.size + 1]? = some (.cells #[.int .i64 g, .slice A l.length c] 106 (0, 0)) := by
    rw [← hW0]
    have h := heap_alloc_new (w.alloc (.cells #[.int .i64 2, .int .i64 cap, .int .i64 num, .int .i64 den, .int .i64 width, .int .i64 count, .int .i64 keys, .int .i64 slots, .int .i64 every, .int .i64 seg] 23 (0, 0))) (.cells #[.int .i64 g, .slice A l.length c] 106 (0, 0))
    rw [World.size_alloc] at h
    exact ((Below.refl (w.heap.size + 1 + 1) _).alloc (by simp) _).block _ (by omega) |>.trans h
  have hr0 : W0.heap[w.heap.size + 1 + 1]? = some (.cells #[.int .i64 0, .slice none 0 0] 106 (0, 0)) := by
    rw [← hW0]
    have h := heap_alloc_new ((w.alloc (.cells #[.int .i64 2, .int .i64 cap, .int .i64 num, .int .i64 den, .int .i64 width, .int .i64 count, .int .i64 keys, .int .i64 slots, .int .i64 every, .int .i64 seg] 23 (0, 0))).alloc (.cells #[.int .i64 g, .slice A l.length c] 106 (0, 0))) (.cells #[.int .i64 0, .slice none 0 0] 106 (0, 0))
    rw [World.size_alloc, World.size_alloc] at h
    exact h
  have HW := Aside0.mk hW0
  have HP0 := Aside0.mk hp0
  have HX0 := Aside0.mk hx0
  have HR0 := Aside0.mk hr0
  have HB0 := Aside0.mk hb0
  have HS0 := Aside0.mk hs0
  have HE1 := Aside0.mk e1
  have HJ := Aside0.mk hj
  clear hW0 hp0 hx0 hr0 hb0 hs0 hpi hp hw1 hw2 hw4 hw3 hr e1 hj
  go_enter Try.func142, Try.ntmps142
  go_wp2_with (first | ((with_reducible refine gload 23 rfl ?_); rw [HW.out]; refine wpList_load_blk rfl 23 _ rfl w.heap.size _ 23 _ rfl HP0.out _ Try.underlying23 rfl infoPol ?_) | fail)
  refine (HM.out _).mono ?_
  rintro e w1 ⟨rfl, hb1⟩
  have HP1 := Aside0.mk ((hb1.block _ (by have := HS0.out; omega)).trans HP0.out)
  have HX1 := Aside0.mk ((hb1.block _ (by have := HS0.out; omega)).trans HX0.out)
  have HR1 := Aside0.mk ((hb1.block _ (by have := HS0.out; omega)).trans HR0.out)
  have HB1 := Aside0.mk (HB0.out.trans (hb1.mono HB0.out.size))
  have HS1 := Aside0.mk (show w.heap.size + 1 + 1 < w1.heap.size from by have := hb1.size; have := HS0.out; omega)
  clear hb1 HP0 HX0 HR0 HB0 HM HW
  go_wp2_with (first | ((with_reducible refine gload 23 rfl ?_); refine wpList_load_blk rfl 23 _ rfl w.heap.size _ 23 _ rfl HP1.out _ Try.underlying23 rfl infoPol ?_) | ((with_reducible refine gload 106 rfl ?_); refine wpList_load_blk rfl 106 _ rfl (w.heap.size + 1) _ 106 _ rfl HX1.out _ Try.underlying106 rfl infoSums ?_) | fail)
  refine (HCO.out _ (Kd.C_below HC0.out HB1.out)).mono ?_
  rintro e w2 ⟨v2, rfl, hR2, hb2⟩
  obtain ⟨g2, c2, ev, hg2, hgl2, cells2, hcells2⟩ := Kd.R_form hR2 hl0
  subst ev
  have HP2 := Aside0.mk ((hb2.block _ (by have := HS1.out; omega)).trans HP1.out)
  have HX2 := Aside0.mk ((hb2.block _ (by have := HS1.out; omega)).trans HX1.out)
  have HRR2 := Aside0.mk ((hb2.block _ (by have := HS1.out; omega)).trans HR1.out)
  have HB2 := Aside0.mk (HB1.out.trans (hb2.mono HB1.out.size))
  have HS2 := Aside0.mk (show w.heap.size + 1 + 1 < w2.heap.size from by have := hb2.size; have := HS1.out; omega)
  have HV2 := Aside0.mk (Kd.R_lower hR2 HB1.out.size)
  have hgb : w1.heap.size ≤ g2 := hg2
  have hne : w.heap.size + 1 + 1 < g2 := by have := HS1.out; omega
  clear hb2 hR2 hcells2 hg2 hgl2 hgb HP1 HX1 HR1 HB1 HS1 HCO HC0
  go_wp2_with (first | ((with_reducible refine gstore 106 rfl ?_); refine wpList_store_blk rfl 106 _ _ rfl (w.heap.size + 1) 0 #[.int .i64 g, .slice A l.length c] 106 #[.int .i64 g, .slice (some ⟨g2, 0, none⟩) l.length c2] rfl rfl HX2.out (by simp) infoSums (by simp [Value.oneCell']) ?_; intro w3 hx3 ho3; have HX3 := Aside0.mk hx3; have HP3 := Aside0.mk ((ho3.other _ (by omega)).trans HP2.out); have HR3 := Aside0.mk ((ho3.other _ (by omega)).trans HRR2.out); have HB3 := Aside0.mk (HB2.out.trans (ho3.below (by omega))); have HV3 := Aside0.mk (R_only HV2.out HX2.out (by decide) ho3); clear hx3 ho3 HX2 HP2 HRR2 HB2 HV2 HS2) | fail)
  refine (wmay_fn cost _).mono ?_
  rintro e w4 ⟨rfl, hw4⟩
  rw [HD.out, hw4]
  clear hw4 w4
  have hj := HJ.out
  have hput := Kd.R_put HV3.out (j : Int) (mn (x + cost) 1099511627776)
  rw [Int.toNat_natCast] at hput
  obtain ⟨k0, k1⟩ := Kd.R_cell (0 : Int) HV3.out (j : Int) (by omega) (by omega)
  rw [Int.toNat_natCast] at k0 k1
  rw [show rdOf (0 : Int) l (j : Int) = x from HXX.out] at k0
  have hset : OnlyBlk g2 w3 (w3.setCell ⟨g2, j, none⟩ (.int .i64 (mn (x + cost) 1099511627776))) := ⟨rfl, rfl, rfl, by simp [World.setCell], fun i hi => Below.heap_setCell w3 _ _ i (by simpa using hi)⟩
  have HX5 := Aside0.mk ((hset.other _ (by omega)).trans HX3.out)
  have HR5 := Aside0.mk ((hset.other _ (by omega)).trans HR3.out)
  have HB5 := Aside0.mk (HB3.out.trans (hset.below (by omega)))
  have HV5 := Aside0.mk hput.1
  have k2 : w3.cell? ⟨w.heap.size + 1, 1, none⟩ = some (.slice (some ⟨g2, 0, none⟩) l.length c2) := by rw [cell_of_row w3 _ 1 _ _ _ HX3.out]; rfl
  have k3 : w3.cell? ⟨w.heap.size, 5, none⟩ = some (.int .i64 count) := by rw [cell_of_row w3 _ 5 _ _ _ HP3.out]; rfl
  have e1 := HE1.out
  have e2 : IntKind.i64.wrap (x + cost) = x + cost := IntWalk.i64_in _ (by omega)
  have j0 : (0 : Int) ≤ (j : Int) := by omega
  have j1 : (j : Int) < (l.length : Int) := by omega
  clear hput hset hj
  obtain ⟨W5, hW5⟩ : ∃ W5, w3.setCell ⟨g2, j, none⟩ (.int .i64 (mn (x + cost) 1099511627776)) = W5 := ⟨_, rfl⟩
  rw [hW5] at HX5 HR5 HB5 HV5
  have HW5 := Aside0.mk hW5
  clear hW5
  by_cases hm : 1099511627776 < x + cost
  · have HMN := Aside0.mk (show mn (x + cost) 1099511627776 = 1099511627776 from by unfold mn; rw [if_pos hm])
    have hW5 := HW5.out
    rw [HMN.out] at hW5
    go_wp2_with (first | ((with_reducible refine gload 106 rfl ?_); (try rw [hW5]); refine wpList_load_blk rfl 106 _ rfl (w.heap.size + 1) _ 106 _ rfl HX5.out _ Try.underlying106 rfl infoSums ?_) | ((with_reducible refine gstore 106 rfl ?_); refine wpList_store_blk rfl 106 _ _ rfl (w.heap.size + 1 + 1) 0 #[.int .i64 0, .slice none 0 0] 106 #[.int .i64 g, .slice (some ⟨g2, 0, none⟩) l.length c2] rfl rfl HR5.out (by simp) infoSums (by simp [Value.oneCell']) ?_; intro w9 hx9 ho9; have HX9 := Aside0.mk hx9; have HB9 := Aside0.mk (HB5.out.trans (ho9.below (by omega))); have HV9 := Aside0.mk (R_only HV5.out HR5.out (by decide) ho9); clear hx9 ho9) | fail)
    exact ⟨rfl, _, results_cell rfl _ _ (w.heap.size + 1 + 1) 106 _ _ _ rfl HX9.out Try.underlying106 rfl infoSums, _, rfl, by rw [HT.out]; exact HV9.out, HB9.out⟩
  · have HMN := Aside0.mk (show mn (x + cost) 1099511627776 = x + cost from by unfold mn; rw [if_neg hm])
    have hW5 := HW5.out
    rw [HMN.out] at hW5
    go_wp2_with (first | ((with_reducible refine gload 106 rfl ?_); (try rw [hW5]); refine wpList_load_blk rfl 106 _ rfl (w.heap.size + 1) _ 106 _ rfl HX5.out _ Try.underlying106 rfl infoSums ?_) | ((with_reducible refine gstore 106 rfl ?_); refine wpList_store_blk rfl 106 _ _ rfl (w.heap.size + 1 + 1) 0 #[.int .i64 0, .slice none 0 0] 106 #[.int .i64 g, .slice (some ⟨g2, 0, none⟩) l.length c2] rfl rfl HR5.out (by simp) infoSums (by simp [Value.oneCell']) ?_; intro w9 hx9 ho9; have HX9 := Aside0.mk hx9; have HB9 := Aside0.mk (HB5.out.trans (ho9.below (by omega))); have HV9 := Aside0.mk (R_only HV5.out HR5.out (by decide) ho9); clear hx9 ho9) | fail)
    exact ⟨rfl, _, results_cell rfl _ _ (w.heap.size + 1 + 1) 106 _ _ _ rfl HX9.out Try.underlying106 rfl infoSums, _, rfl, by rw [HT.out]; exact HV9.out, HB9.out⟩
end Go.Proofs.Ytnodnpenlplleaa.Own
