/- Lemmas for a claim of this seat: texts of this session and of the kit's print, without what this claim does not use. -/
import Derived.Test.YtmlpahjmebfgbaaUTopB
namespace Go.Proofs.Ytmlpahjmebfgbaa.Own
open Go.RowKit Go.Proofs.YtmlpahjmebfgbaaW.PrintWords Go.Proofs.YtmlpahjmebfgbaaW.PrintLast Go.Proofs.YtmlpahjmebfgbaaW.PrintMore Go.Proofs.Ytmlpahjmebfgbaa.PEx
set_option linter.unusedVariables false
set_option linter.unusedSimpArgs false

def due_T5 : Bool × List (List Nat × List Nat) := (true, [([], []), ([0], [0]), ([1], [1]), ([2], [2]), ([2], [2]), ([2], [2]), ([5, 2], [2, 5]), ([3, 4, 6, 2, 2], [2, 3, 4, 6]), ([7, 2], [2, 7]), ([2], [2]), ([9, 2], [2, 9]), ([8, 10, 2], [2, 8, 10]), ([2, 11], [2, 11]), ([12, 7], [12])])
def due_B5 : List Nat := [0, 1, 3, 7, 7, 7, 39, 127, 255, 7, 519, 2047, 4095, 8191]
theorem due_tab5 : rtab .any (opsOf Try.f37 5) = due_T5 := by kernel_rfl
theorem due_bits5 : waitsOk due_T5.2 due_B5 = true := by kernel_rfl

/-- The verdict that is due. -/
def dueX (kind cap num den width count keys : Int) (xs : List S42) (tick : Int) (key : ByteArray) (cost : Int) : Int :=
  if owedX kind num den width count tick (own key xs) = 0 ∧ keys ≤ ((holdL kind num den width count tick xs).length : Int) then 2
  else if owedX kind num den width count tick (own key xs) + cost * (if kind = 1 then den else 1) ≤ cap * (if kind = 1 then den else 1) then 1 else 0

theorem owedX_bound {kind num den width count tick : Int} {l : List S42} (okp : okP kind num den width count) (hok : ∀ r ∈ l, okR r) (ht0 : 0 ≤ tick) :
    0 ≤ owedX kind num den width count tick l ∧ owedX kind num den width count tick l ≤ l.length * 68719476736 := by
  have hl := upto_length tick l
  unfold owedX
  rcases okp with ⟨rfl, h1, h2, h3, h4⟩ | ⟨rfl, h1, h2, h3, h4⟩
  · rw [if_pos rfl]
    obtain ⟨b1, b2, b3⟩ := foldB_bound (num := num) (den := den) (tick := tick) h1 h3 h4 (upto tick (backs l)) (fun r h => ⟨hok r (upto_mem h).1, (upto_mem h).2⟩)
    omega
  · rw [if_neg (by decide)]
    obtain ⟨b1, b2⟩ := sumW_bound ((upto tick (backs l)).takeWhile (inW width count tick)) (fun r h => hok r (upto_mem ((List.takeWhile_sublist _).subset h)).1)
    have := (List.takeWhile_sublist (inW width count tick) (l := upto tick (backs l))).length_le
    omega

set_option maxRecDepth 100000 in
set_option maxHeartbeats 8000000 in
theorem due_fn1 (a0_1 a0_2 a0_3 a0_4 a0_5 a0_6 a0_7 a0_8 a0_9 : Int) (b : Nat) (xs : List S42) (f0 : Int) (f1 : ByteArray) (f2 f3 : Int) (w : World) (hB : Book w b xs) (hn : 1 ≤ a0_2) (hn2 : a0_2 ≤ 65536) (hd : 1 ≤ a0_3) (hd2 : a0_3 ≤ 65536) (hcap : 1 ≤ a0_1) (hcap2 : a0_1 ≤ 1048576) (hok : ∀ r ∈ xs, okR r ∧ r.f1.size ≤ maxLen)
    (ht0 : 0 ≤ f0) (ht : f0 ≤ 1099511627776) (hk : f1.size ≤ maxLen) (hc : 1 ≤ f2) (hc2 : f2 ≤ 1048576) (hlen : xs.length ≤ 10000) :
    Calls Try.prog 37 #[.map (some b), .agg #[.int .i64 1, .int .i64 a0_1, .int .i64 a0_2, .int .i64 a0_3, .int .i64 a0_4, .int .i64 a0_5, .int .i64 a0_6, .int .i64 a0_7, .int .i64 a0_8, .int .i64 a0_9], .agg #[.int .i64 f0, .string f1, .int .i64 f2, .int .i64 f3]] w fun e w' =>
      e = .returned (.int .i64 (dueX 1 a0_1 a0_2 a0_3 a0_4 a0_5 a0_6 xs f0 f1 f2)) ∧ Below w.heap.size w w' := by
  have hobd := owedX_bound (kind := 1) (num := a0_2) (den := a0_3) (width := a0_4) (count := a0_5) (l := own f1 xs) (tick := f0) (okp := (.inl ⟨rfl, hn, hn2, hd, hd2⟩)) (fun r h => (hok r (own_mem h).1).1) ht0
  have hol := own_length f1 xs
  obtain ⟨W1, hW1⟩ : ∃ W1, (w.alloc (.cells #[.int .i64 1, .int .i64 a0_1, .int .i64 a0_2, .int .i64 a0_3, .int .i64 a0_4, .int .i64 a0_5, .int .i64 a0_6, .int .i64 a0_7, .int .i64 a0_8, .int .i64 a0_9] 23 (0, 0))).alloc (.cells #[.int .i64 f0, .string f1, .int .i64 f2, .int .i64 f3] 42 (0, 0)) = W1 := ⟨_, rfl⟩
  have hb1 : Below w.heap.size w W1 := by rw [← hW1]; exact ((Below.refl _ w).alloc (Nat.le_refl _) _).alloc (by simp) _
  have hp1 : W1.heap[w.heap.size]? = some (.cells #[.int .i64 1, .int .i64 a0_1, .int .i64 a0_2, .int .i64 a0_3, .int .i64 a0_4, .int .i64 a0_5, .int .i64 a0_6, .int .i64 a0_7, .int .i64 a0_8, .int .i64 a0_9] 23 (0, 0)) := by rw [← hW1]; exact (Below.heap_alloc _ _ _ (by simp)).trans (heap_alloc_new w _)
  have hr1 : W1.heap[w.heap.size + 1]? = some (.cells #[.int .i64 f0, .string f1, .int .i64 f2, .int .i64 f3] 42 (0, 0)) := by rw [← hW1]; have := heap_alloc_new (w.alloc (.cells #[.int .i64 1, .int .i64 a0_1, .int .i64 a0_2, .int .i64 a0_3, .int .i64 a0_4, .int .i64 a0_5, .int .i64 a0_6, .int .i64 a0_7, .int .i64 a0_8, .int .i64 a0_9] 23 (0, 0))) (.cells #[.int .i64 f0, .string f1, .int .i64 f2, .int .i64 f3] 42 (0, 0)); rwa [World.size_alloc] at this
  have hs1 : W1.heap.size = w.heap.size + 2 := by rw [← hW1]; simp
  obtain ⟨Ao, co, hlook, hco, hCo⟩ := (hB.below hb1).look hk
  have HBK := Aside0.mk (hB.below hb1)
  have HP := Aside0.mk hp1
  have HR := Aside0.mk hr1
  have HS := Aside0.mk hs1
  have HB := Aside0.mk hb1
  have HCO := Aside0.mk hCo
  have e0 : W1.cell? ⟨w.heap.size + 1, 0, none⟩ = some (.int .i64 f0) := by rw [cell_of_row W1 _ 0 _ _ _ hr1]; rfl
  have e1 : W1.cell? ⟨w.heap.size + 1, 1, none⟩ = some (.string f1) := by rw [cell_of_row W1 _ 1 _ _ _ hr1]; rfl
  have q0 : W1.cell? ⟨w.heap.size, 0, none⟩ = some (.int .i64 1) := by rw [cell_of_row W1 _ 0 _ _ _ hp1]; rfl
  have q3 : W1.cell? ⟨w.heap.size, 3, none⟩ = some (.int .i64 a0_3) := by rw [cell_of_row W1 _ 3 _ _ _ hp1]; rfl
  clear hB hr1 hs1 hb1 hCo
  refine calls_of_wp Try.func37 rfl ?_
  simp only [Try.ntmps37, List.size_toArray, List.length_cons, List.length_nil, Nat.reduceAdd, Nat.reduceSub, Array.replicate_succ, Array.replicate_zero, List.push_toArray, List.append_toArray, List.nil_append, List.cons_append]
  go_wp2_with (first | ((with_reducible refine gload 23 rfl ?_); refine wpList_load_blk rfl 23 _ rfl w.heap.size _ 23 _ rfl hp1 _ Try.underlying23 rfl info23 ?_) | fail)
  clear hW1 e0 e1 hlook hp1 q0 q3
  refine (owed_any 1 a0_1 a0_2 a0_3 a0_4 a0_5 a0_6 a0_7 a0_8 a0_9 f0 Ao co (own f1 xs) _ HCO.out (.inl ⟨rfl, hn, hn2, hd, hd2⟩) (fun r h => (hok r (own_mem h).1).1) ht0 ht (by omega)).mono ?_
  rintro e W2 ⟨rfl, hb2⟩
  have hp2 := (hb2.block _ (by have := HS.out; omega)).trans HP.out
  have hr2 := (hb2.block _ (by have := HS.out; omega)).trans HR.out
  have hbk2 := HBK.out.below hb2
  have hbw2 := HB.out.trans (hb2.mono HB.out.size)
  have hs2 : w.heap.size + 1 < W2.heap.size := by have := HS.out; have := hb2.size; omega
  clear HP HR HBK HB HS HCO hb2
  have HP := Aside0.mk hp2
  have HR := Aside0.mk hr2
  have HBK := Aside0.mk hbk2
  have HB := Aside0.mk hbw2
  have HS := Aside0.mk hs2
  have c0 : W2.cell? ⟨w.heap.size, 0, none⟩ = some (.int .i64 1) := by rw [cell_of_row W2 _ 0 _ _ _ hp2]; rfl
  have c1 : W2.cell? ⟨w.heap.size, 1, none⟩ = some (.int .i64 a0_1) := by rw [cell_of_row W2 _ 1 _ _ _ hp2]; rfl
  have c2 : W2.cell? ⟨w.heap.size, 2, none⟩ = some (.int .i64 a0_2) := by rw [cell_of_row W2 _ 2 _ _ _ hp2]; rfl
  have c3 : W2.cell? ⟨w.heap.size, 3, none⟩ = some (.int .i64 a0_3) := by rw [cell_of_row W2 _ 3 _ _ _ hp2]; rfl
  have c4 : W2.cell? ⟨w.heap.size, 4, none⟩ = some (.int .i64 a0_4) := by rw [cell_of_row W2 _ 4 _ _ _ hp2]; rfl
  have c5 : W2.cell? ⟨w.heap.size, 5, none⟩ = some (.int .i64 a0_5) := by rw [cell_of_row W2 _ 5 _ _ _ hp2]; rfl
  have c6 : W2.cell? ⟨w.heap.size, 6, none⟩ = some (.int .i64 a0_6) := by rw [cell_of_row W2 _ 6 _ _ _ hp2]; rfl
  have c7 : W2.cell? ⟨w.heap.size, 7, none⟩ = some (.int .i64 a0_7) := by rw [cell_of_row W2 _ 7 _ _ _ hp2]; rfl
  have c8 : W2.cell? ⟨w.heap.size, 8, none⟩ = some (.int .i64 a0_8) := by rw [cell_of_row W2 _ 8 _ _ _ hp2]; rfl
  have c9 : W2.cell? ⟨w.heap.size, 9, none⟩ = some (.int .i64 a0_9) := by rw [cell_of_row W2 _ 9 _ _ _ hp2]; rfl
  have r0 : W2.cell? ⟨w.heap.size + 1, 0, none⟩ = some (.int .i64 f0) := by rw [cell_of_row W2 _ 0 _ _ _ hr2]; rfl
  have r1 : W2.cell? ⟨w.heap.size + 1, 1, none⟩ = some (.string f1) := by rw [cell_of_row W2 _ 1 _ _ _ hr2]; rfl
  have r2 : W2.cell? ⟨w.heap.size + 1, 2, none⟩ = some (.int .i64 f2) := by rw [cell_of_row W2 _ 2 _ _ _ hr2]; rfl
  have r3 : W2.cell? ⟨w.heap.size + 1, 3, none⟩ = some (.int .i64 f3) := by rw [cell_of_row W2 _ 3 _ _ _ hr2]; rfl
  by_cases hz : owedX 1 a0_2 a0_3 a0_4 a0_5 f0 (own f1 xs) = 0
  case neg =>
    generalize hOW : owedX 1 a0_2 a0_3 a0_4 a0_5 f0 (own f1 xs) = ow at hz hobd ⊢
    have HOW := Aside0.mk hOW
    clear hOW hp2 hr2 hbk2 hbw2 hs2
    go_wp2_with fail
    go_quiet (fail)
    have HBE : Aside0 (Below w.heap.size w (W2.drewN nq)) := ⟨pw_below_drewN HB.out _⟩
    have m1 := mul_le_of (a := f2) (b := a0_3) (A := 1048576) (B := 65536) (by omega) hc2 (by omega) hd2
    have m2 := mul_le_of (a := a0_1) (b := a0_3) (A := 1048576) (B := 65536) (by omega) hcap2 (by omega) hd2
    by_cases hle : ow + f2 * a0_3 ≤ a0_1 * a0_3
    · have hfin : dueX 1 a0_1 a0_2 a0_3 a0_4 a0_5 a0_6 xs f0 f1 f2 = 1 := by rw [dueX, HOW.out, if_neg (fun h => hz h.1)]; simp; omega
      have HF := Aside0.mk hfin
      clear hfin
      go_wp2_with fail
      go_ret
      exact ⟨by simp [HF.out], HBE.out⟩
    · have hfin : dueX 1 a0_1 a0_2 a0_3 a0_4 a0_5 a0_6 xs f0 f1 f2 = 0 := by rw [dueX, HOW.out, if_neg (fun h => hz h.1)]; simp; omega
      have HF := Aside0.mk hfin
      clear hfin
      go_wp2_with fail
      go_ret
      exact ⟨by simp [HF.out], HBE.out⟩
  case pos =>
    rw [hz]
    have hzz := Aside0.mk hz
    clear hz hobd hp2 hr2 hbk2 hbw2 hs2
    go_wp2_with fail
    refine start_ (n := 14) (S := fun w' => w'.cell? ⟨w.heap.size, 0, none⟩ = some (.int .i64 1) ∧ w'.cell? ⟨w.heap.size, 1, none⟩ = some (.int .i64 a0_1) ∧ w'.cell? ⟨w.heap.size, 2, none⟩ = some (.int .i64 a0_2) ∧ w'.cell? ⟨w.heap.size, 3, none⟩ = some (.int .i64 a0_3) ∧ w'.cell? ⟨w.heap.size, 4, none⟩ = some (.int .i64 a0_4) ∧ w'.cell? ⟨w.heap.size, 5, none⟩ = some (.int .i64 a0_5) ∧ w'.cell? ⟨w.heap.size, 6, none⟩ = some (.int .i64 a0_6) ∧ w'.cell? ⟨w.heap.size, 7, none⟩ = some (.int .i64 a0_7) ∧ w'.cell? ⟨w.heap.size, 8, none⟩ = some (.int .i64 a0_8) ∧ w'.cell? ⟨w.heap.size, 9, none⟩ = some (.int .i64 a0_9) ∧ w'.cell? ⟨w.heap.size + 1, 0, none⟩ = some (.int .i64 f0) ∧ w'.cell? ⟨w.heap.size + 1, 1, none⟩ = some (.string f1) ∧ w'.cell? ⟨w.heap.size + 1, 2, none⟩ = some (.int .i64 f2) ∧ w'.cell? ⟨w.heap.size + 1, 3, none⟩ = some (.int .i64 f3)) (ds := []) #[false, false, false, false, false, false, false, false, false, false, false, false, false, false] (by kernel_rfl) rfl rfl (⟨c0, c1, c2, c3, c4, c5, c6, c7, c8, c9, r0, r1, r2, r3⟩) (fun hHeld => ?_); refine with_tabW due_tab5 due_bits5 (fun HT_ HW_ => ?_)
    refine pure_ (i := 0) (N := some 23) (v := ?_) (a' := ?_) #[true, false, false, false, false, false, false, false, false, false, false, false, false, false] rfl rfl (any_of HT_.out (by kernel_rfl)) (fun _ _ _ h => h) (Or.inl ⟨by rfl, ?_⟩) ?_ ?_
    rotate_left
    · intro w'
      go_simp
      try with_reducible rfl
    rotate_left
    · simp only [Act.put, List.setIfInBounds_toArray, List.set_cons_zero, List.set_cons_succ]
      rfl
    refine pure_ (i := 1) (N := some 24) (v := ?_) (a' := ?_) #[true, true, false, false, false, false, false, false, false, false, false, false, false, false] rfl rfl (any_of HT_.out (by kernel_rfl)) (fun _ _ _ h => h) (Or.inl ⟨by rfl, ?_⟩) ?_ ?_
    rotate_left
    · intro w'
      go_simp
      try with_reducible rfl
    rotate_left
    · simp only [Act.put, List.setIfInBounds_toArray, List.set_cons_zero, List.set_cons_succ]
      rfl
    refine pure_ (i := 2) (N := some 25) (v := ?_) (a' := ?_) #[true, true, true, false, false, false, false, false, false, false, false, false, false, false] rfl rfl (any_of HT_.out (by kernel_rfl)) (fun _ _ _ h => h) (Or.inl ⟨by rfl, ?_⟩) ?_ ?_
    rotate_left
    · intro w'
      go_simp
      try with_reducible rfl
    rotate_left
    · simp only [Act.put, List.setIfInBounds_toArray, List.set_cons_zero, List.set_cons_succ]
      rfl
    refine pure_ (i := 3) (N := some 26) (v := ?_) (a' := ?_) #[true, true, true, true, false, false, false, false, false, false, false, false, false, false] rfl rfl (any_of HT_.out (by kernel_rfl)) (fun _ _ _ h => h) (Or.inl ⟨by rfl, ?_⟩) ?_ ?_
    rotate_left
    · intro w'
      go_simp
      try with_reducible rfl
    rotate_left
    · simp only [Act.put, List.setIfInBounds_toArray, List.set_cons_zero, List.set_cons_succ]
      rfl
    refine take_ (i := 4) (N := some 27) (v := ?_) (a' := ?_) #[true, true, true, true, true, false, false, false, false, false, false, false, false, false] rfl rfl (take_ofW HT_.out HW_.out (by kernel_rfl)) (fun _ _ _ h => h) (Or.inl ⟨by rfl, ?_⟩) hHeld ?_ ?_
    rotate_left
    · rintro w' ⟨s0, s1, s2, s3, s4, s5, s6, s7, s8, s9, s10, s11, s12, s13⟩
      go_simp
      try with_reducible rfl
    rotate_left
    · simp only [Act.put, List.setIfInBounds_toArray, List.set_cons_zero, List.set_cons_succ]
      rfl
    refine pure_ (i := 5) (N := some 28) (v := ?_) (a' := ?_) #[true, true, true, true, true, true, false, false, false, false, false, false, false, false] rfl rfl (any_of HT_.out (by kernel_rfl)) (fun _ _ _ h => h) (Or.inl ⟨by rfl, ?_⟩) ?_ ?_
    rotate_left
    · intro w'
      go_simp
      try with_reducible rfl
    rotate_left
    · simp only [Act.put, List.setIfInBounds_toArray, List.set_cons_zero, List.set_cons_succ]
      rfl
    refine take_ (i := 6) (N := some 29) (v := ?_) (a' := ?_) #[true, true, true, true, true, true, true, false, false, false, false, false, false, false] rfl rfl (take_ofW HT_.out HW_.out (by kernel_rfl)) (fun _ _ _ h => h) (Or.inl ⟨by rfl, ?_⟩) hHeld ?_ ?_
    rotate_left
    · rintro w' ⟨s0, s1, s2, s3, s4, s5, s6, s7, s8, s9, s10, s11, s12, s13⟩
      go_simp
      try with_reducible rfl
    rotate_left
    · simp only [Act.put, List.setIfInBounds_toArray, List.set_cons_zero, List.set_cons_succ]
      rfl
    refine pure_ (i := 9) (N := some 32) (v := ?_) (a' := ?_) #[true, true, true, true, true, true, true, false, false, true, false, false, false, false] rfl rfl (any_of HT_.out (by kernel_rfl)) (fun _ _ _ h => h) (Or.inl ⟨by rfl, ?_⟩) ?_ ?_
    rotate_left
    · intro w'
      go_simp
      try with_reducible rfl
    rotate_left
    · simp only [Act.put, List.setIfInBounds_toArray, List.set_cons_zero, List.set_cons_succ]
      rfl
    refine take_ (i := 10) (N := some 33) (v := ?_) (a' := ?_) #[true, true, true, true, true, true, true, false, false, true, true, false, false, false] rfl rfl (take_ofW HT_.out HW_.out (by kernel_rfl)) (fun _ _ _ h => h) (Or.inl ⟨by rfl, ?_⟩) hHeld ?_ ?_
    rotate_left
    · rintro w' ⟨s0, s1, s2, s3, s4, s5, s6, s7, s8, s9, s10, s11, s12, s13⟩
      go_simp
      try with_reducible rfl
    rotate_left
    · simp only [Act.put, List.setIfInBounds_toArray, List.set_cons_zero, List.set_cons_succ]
      rfl
    refine one_ (i := 7) (N := some 30) #[true, true, true, true, true, true, true, true, false, true, true, false, false, false] rfl rfl (one_of HT_.out (by kernel_rfl)) (by decide) (fun K hK => ?_)
    refine goes_ Try.func35 (by kernel_rfl) rfl #[.map (some b), .agg #[.int .i64 1, .int .i64 a0_1, .int .i64 a0_2, .int .i64 a0_3, .int .i64 a0_4, .int .i64 a0_5, .int .i64 a0_6, .int .i64 a0_7, .int .i64 a0_8, .int .i64 a0_9], .int .i64 f0] (by rfl) rfl rfl (by (try simp only [List.map_toArray, List.map_cons, List.map_nil]); first | done | rfl) ?_
    refine (holders_fn 1 a0_1 a0_2 a0_3 a0_4 a0_5 a0_6 a0_7 a0_8 a0_9 b xs f0 _ (HBK.out.below (Below.drew (Below.refl _ _))) (.inl ⟨rfl, hn, hn2, hd, hd2⟩) hok ht0 ht hlen).mono ?_
    rintro e W3 ⟨v, ks, rfl, hks, hR, hb3⟩
    refine ⟨_, rfl, ?_⟩
    have hb23 : Below W2.heap.size W2 W3 := (Below.drew (Below.refl _ _)).trans hb3
    have hp3 := (hb23.block _ (by have := HS.out; omega)).trans HP.out
    have hr3 := (hb23.block _ HS.out).trans HR.out
    have HBE := Aside0.mk (HB.out.trans (hb23.mono HB.out.size))
    have d0 : W3.cell? ⟨w.heap.size, 0, none⟩ = some (.int .i64 1) := by rw [cell_of_row W3 _ 0 _ _ _ hp3]; rfl
    have d1 : W3.cell? ⟨w.heap.size, 1, none⟩ = some (.int .i64 a0_1) := by rw [cell_of_row W3 _ 1 _ _ _ hp3]; rfl
    have d2 : W3.cell? ⟨w.heap.size, 2, none⟩ = some (.int .i64 a0_2) := by rw [cell_of_row W3 _ 2 _ _ _ hp3]; rfl
    have d3 : W3.cell? ⟨w.heap.size, 3, none⟩ = some (.int .i64 a0_3) := by rw [cell_of_row W3 _ 3 _ _ _ hp3]; rfl
    have d4 : W3.cell? ⟨w.heap.size, 4, none⟩ = some (.int .i64 a0_4) := by rw [cell_of_row W3 _ 4 _ _ _ hp3]; rfl
    have d5 : W3.cell? ⟨w.heap.size, 5, none⟩ = some (.int .i64 a0_5) := by rw [cell_of_row W3 _ 5 _ _ _ hp3]; rfl
    have d6 : W3.cell? ⟨w.heap.size, 6, none⟩ = some (.int .i64 a0_6) := by rw [cell_of_row W3 _ 6 _ _ _ hp3]; rfl
    have d7 : W3.cell? ⟨w.heap.size, 7, none⟩ = some (.int .i64 a0_7) := by rw [cell_of_row W3 _ 7 _ _ _ hp3]; rfl
    have d8 : W3.cell? ⟨w.heap.size, 8, none⟩ = some (.int .i64 a0_8) := by rw [cell_of_row W3 _ 8 _ _ _ hp3]; rfl
    have d9 : W3.cell? ⟨w.heap.size, 9, none⟩ = some (.int .i64 a0_9) := by rw [cell_of_row W3 _ 9 _ _ _ hp3]; rfl
    have t0 : W3.cell? ⟨w.heap.size + 1, 0, none⟩ = some (.int .i64 f0) := by rw [cell_of_row W3 _ 0 _ _ _ hr3]; rfl
    have t1 : W3.cell? ⟨w.heap.size + 1, 1, none⟩ = some (.string f1) := by rw [cell_of_row W3 _ 1 _ _ _ hr3]; rfl
    have t2 : W3.cell? ⟨w.heap.size + 1, 2, none⟩ = some (.int .i64 f2) := by rw [cell_of_row W3 _ 2 _ _ _ hr3]; rfl
    have t3 : W3.cell? ⟨w.heap.size + 1, 3, none⟩ = some (.int .i64 f3) := by rw [cell_of_row W3 _ 3 _ _ _ hr3]; rfl
    obtain ⟨Av, cv, ev, hcv, hCv⟩ := Kd.R_reads hR
    subst ev
    have hhl : ks.filter (owes 1 a0_2 a0_3 a0_4 a0_5 f0 xs) = holdL 1 a0_2 a0_3 a0_4 a0_5 f0 xs := by rw [holdL, ← keys_unique hks]
    rw [hhl] at hCv hcv ⊢
    have hhn : (holdL 1 a0_2 a0_3 a0_4 a0_5 f0 xs).length ≤ 9223372036854775807 := hCv.2.1
    clear hb3 hb23 hp3 hr3 hR hks hCv hhl
    refine hK.out _ _ ⟨d0, d1, d2, d3, d4, d5, d6, d7, d8, d9, t0, t1, t2, t3⟩ (fun hHeld => ?_)
    clear hK K
    generalize hHL : (holdL 1 a0_2 a0_3 a0_4 a0_5 f0 xs).length = hl at hhn ⊢
    have HHL := Aside0.mk hHL
    clear hHL hcv
    refine norm_ (a' := ?_) ?_ ?_
    rotate_left
    · show Act.put _ (some 30) _ = _
      simp only [Act.put, List.setIfInBounds_toArray, List.set_cons_zero, List.set_cons_succ]
      rfl
    by_cases hfull : a0_6 ≤ (hl : Int)
    ·
      refine pure_ (i := 8) (N := some 31) (v := ?_) (a' := ?_) #[true, true, true, true, true, true, true, true, true, true, true, false, false, false] rfl rfl (any_of HT_.out (by kernel_rfl)) (fun _ _ _ h => h) (Or.inl ⟨by rfl, ?_⟩) ?_ ?_
      rotate_left
      · intro w'
        go_simp
        try with_reducible rfl
      rotate_left
      · simp only [Act.put, List.setIfInBounds_toArray, List.set_cons_zero, List.set_cons_succ]
        rfl
      refine pure_ (i := 11) (N := some 34) (v := ?_) (a' := ?_) #[true, true, true, true, true, true, true, true, true, true, true, true, false, false] rfl rfl (any_of HT_.out (by kernel_rfl)) (fun _ _ _ h => h) (Or.inl ⟨by rfl, ?_⟩) ?_ ?_
      rotate_left
      · intro w'
        go_simp
        try with_reducible rfl
      rotate_left
      · simp only [Act.put, List.setIfInBounds_toArray, List.set_cons_zero, List.set_cons_succ]
        rfl
      refine pure_ (i := 12) (N := some 35) (v := ?_) (a' := ?_) #[true, true, true, true, true, true, true, true, true, true, true, true, true, false] rfl rfl (any_of HT_.out (by kernel_rfl)) (fun _ _ _ h => h) (Or.inl ⟨by rfl, ?_⟩) ?_ ?_
      rotate_left
      · intro w'
        go_simp
        try with_reducible rfl
      rotate_left
      · simp only [Act.put, List.setIfInBounds_toArray, List.set_cons_zero, List.set_cons_succ]
        rfl
      refine pure_ (i := 13) (N := some 22) (v := ?_) (a' := ?_) #[true, true, true, true, true, true, true, true, true, true, true, true, true, true] rfl rfl (any_of HT_.out (by kernel_rfl)) (fun _ _ _ h => h) (Or.inl ⟨by rfl, ?_⟩) ?_ ?_
      rotate_left
      · intro w'
        go_simp
        try with_reducible rfl
      rotate_left
      · simp only [Act.put, List.setIfInBounds_toArray, List.set_cons_zero, List.set_cons_succ]
        rfl
      refine done_ (done_of HT_.out (by kernel_rfl)) ?_
      have hfin : dueX 1 a0_1 a0_2 a0_3 a0_4 a0_5 a0_6 xs f0 f1 f2 = 2 := by rw [dueX, if_pos ⟨hzz.out, by rw [HHL.out]; exact hfull⟩]
      have HF := Aside0.mk hfin
      clear hfin
      go_wp2_with fail
      go_ret
      exact ⟨by simp [HF.out], HBE.out⟩
    ·
      refine pure_ (i := 8) (N := some 31) (v := ?_) (a' := ?_) #[true, true, true, true, true, true, true, true, true, true, true, false, false, false] rfl rfl (any_of HT_.out (by kernel_rfl)) (fun _ _ _ h => h) (Or.inl ⟨by rfl, ?_⟩) ?_ ?_
      rotate_left
      · intro w'
        go_simp
        try with_reducible rfl
      rotate_left
      · simp only [Act.put, List.setIfInBounds_toArray, List.set_cons_zero, List.set_cons_succ]
        rfl
      refine pure_ (i := 11) (N := some 34) (v := ?_) (a' := ?_) #[true, true, true, true, true, true, true, true, true, true, true, true, false, false] rfl rfl (any_of HT_.out (by kernel_rfl)) (fun _ _ _ h => h) (Or.inl ⟨by rfl, ?_⟩) ?_ ?_
      rotate_left
      · intro w'
        go_simp
        try with_reducible rfl
      rotate_left
      · simp only [Act.put, List.setIfInBounds_toArray, List.set_cons_zero, List.set_cons_succ]
        rfl
      refine pure_ (i := 12) (N := some 35) (v := ?_) (a' := ?_) #[true, true, true, true, true, true, true, true, true, true, true, true, true, false] rfl rfl (any_of HT_.out (by kernel_rfl)) (fun _ _ _ h => h) (Or.inl ⟨by rfl, ?_⟩) ?_ ?_
      rotate_left
      · intro w'
        go_simp
        try with_reducible rfl
      rotate_left
      · simp only [Act.put, List.setIfInBounds_toArray, List.set_cons_zero, List.set_cons_succ]
        rfl
      refine pure_ (i := 13) (N := some 22) (v := ?_) (a' := ?_) #[true, true, true, true, true, true, true, true, true, true, true, true, true, true] rfl rfl (any_of HT_.out (by kernel_rfl)) (fun _ _ _ h => h) (Or.inl ⟨by rfl, ?_⟩) ?_ ?_
      rotate_left
      · intro w'
        go_simp
        try with_reducible rfl
      rotate_left
      · simp only [Act.put, List.setIfInBounds_toArray, List.set_cons_zero, List.set_cons_succ]
        rfl
      refine done_ (done_of HT_.out (by kernel_rfl)) ?_
      have HOW := hzz
      have m1 := mul_le_of (a := f2) (b := a0_3) (A := 1048576) (B := 65536) (by omega) hc2 (by omega) hd2
      have m2 := mul_le_of (a := a0_1) (b := a0_3) (A := 1048576) (B := 65536) (by omega) hcap2 (by omega) hd2
      by_cases hle : f2 * a0_3 ≤ a0_1 * a0_3
      · have hfin : dueX 1 a0_1 a0_2 a0_3 a0_4 a0_5 a0_6 xs f0 f1 f2 = 1 := by rw [dueX, HOW.out, if_neg (fun h => hfull (by have := h.2; rwa [HHL.out] at this))]; simp; omega
        have HF := Aside0.mk hfin
        clear hfin
        go_wp2_with fail
        go_ret
        exact ⟨by simp [HF.out], HBE.out⟩
      · have hfin : dueX 1 a0_1 a0_2 a0_3 a0_4 a0_5 a0_6 xs f0 f1 f2 = 0 := by rw [dueX, HOW.out, if_neg (fun h => hfull (by have := h.2; rwa [HHL.out] at this))]; simp; omega
        have HF := Aside0.mk hfin
        clear hfin
        go_wp2_with fail
        go_ret
        exact ⟨by simp [HF.out], HBE.out⟩

set_option maxRecDepth 100000 in
set_option maxHeartbeats 8000000 in
theorem due_fn2 (a0_1 a0_2 a0_3 a0_4 a0_5 a0_6 a0_7 a0_8 a0_9 : Int) (b : Nat) (xs : List S42) (f0 : Int) (f1 : ByteArray) (f2 f3 : Int) (w : World) (hB : Book w b xs) (hn : 1 ≤ a0_4) (hn2 : a0_4 ≤ 1048576) (hd : 1 ≤ a0_5) (hd2 : a0_5 ≤ 32) (hcap : 1 ≤ a0_1) (hcap2 : a0_1 ≤ 1048576) (hok : ∀ r ∈ xs, okR r ∧ r.f1.size ≤ maxLen)
    (ht0 : 0 ≤ f0) (ht : f0 ≤ 1099511627776) (hk : f1.size ≤ maxLen) (hc : 1 ≤ f2) (hc2 : f2 ≤ 1048576) (hlen : xs.length ≤ 10000) :
    Calls Try.prog 37 #[.map (some b), .agg #[.int .i64 2, .int .i64 a0_1, .int .i64 a0_2, .int .i64 a0_3, .int .i64 a0_4, .int .i64 a0_5, .int .i64 a0_6, .int .i64 a0_7, .int .i64 a0_8, .int .i64 a0_9], .agg #[.int .i64 f0, .string f1, .int .i64 f2, .int .i64 f3]] w fun e w' =>
      e = .returned (.int .i64 (dueX 2 a0_1 a0_2 a0_3 a0_4 a0_5 a0_6 xs f0 f1 f2)) ∧ Below w.heap.size w w' := by
  have hobd := owedX_bound (kind := 2) (num := a0_2) (den := a0_3) (width := a0_4) (count := a0_5) (l := own f1 xs) (tick := f0) (okp := (.inr ⟨rfl, hn, hn2, hd, hd2⟩)) (fun r h => (hok r (own_mem h).1).1) ht0
  have hol := own_length f1 xs
  obtain ⟨W1, hW1⟩ : ∃ W1, (w.alloc (.cells #[.int .i64 2, .int .i64 a0_1, .int .i64 a0_2, .int .i64 a0_3, .int .i64 a0_4, .int .i64 a0_5, .int .i64 a0_6, .int .i64 a0_7, .int .i64 a0_8, .int .i64 a0_9] 23 (0, 0))).alloc (.cells #[.int .i64 f0, .string f1, .int .i64 f2, .int .i64 f3] 42 (0, 0)) = W1 := ⟨_, rfl⟩
  have hb1 : Below w.heap.size w W1 := by rw [← hW1]; exact ((Below.refl _ w).alloc (Nat.le_refl _) _).alloc (by simp) _
  have hp1 : W1.heap[w.heap.size]? = some (.cells #[.int .i64 2, .int .i64 a0_1, .int .i64 a0_2, .int .i64 a0_3, .int .i64 a0_4, .int .i64 a0_5, .int .i64 a0_6, .int .i64 a0_7, .int .i64 a0_8, .int .i64 a0_9] 23 (0, 0)) := by rw [← hW1]; exact (Below.heap_alloc _ _ _ (by simp)).trans (heap_alloc_new w _)
  have hr1 : W1.heap[w.heap.size + 1]? = some (.cells #[.int .i64 f0, .string f1, .int .i64 f2, .int .i64 f3] 42 (0, 0)) := by rw [← hW1]; have := heap_alloc_new (w.alloc (.cells #[.int .i64 2, .int .i64 a0_1, .int .i64 a0_2, .int .i64 a0_3, .int .i64 a0_4, .int .i64 a0_5, .int .i64 a0_6, .int .i64 a0_7, .int .i64 a0_8, .int .i64 a0_9] 23 (0, 0))) (.cells #[.int .i64 f0, .string f1, .int .i64 f2, .int .i64 f3] 42 (0, 0)); rwa [World.size_alloc] at this
  have hs1 : W1.heap.size = w.heap.size + 2 := by rw [← hW1]; simp
  obtain ⟨Ao, co, hlook, hco, hCo⟩ := (hB.below hb1).look hk
  have HBK := Aside0.mk (hB.below hb1)
  have HP := Aside0.mk hp1
  have HR := Aside0.mk hr1
  have HS := Aside0.mk hs1
  have HB := Aside0.mk hb1
  have HCO := Aside0.mk hCo
  have e0 : W1.cell? ⟨w.heap.size + 1, 0, none⟩ = some (.int .i64 f0) := by rw [cell_of_row W1 _ 0 _ _ _ hr1]; rfl
  have e1 : W1.cell? ⟨w.heap.size + 1, 1, none⟩ = some (.string f1) := by rw [cell_of_row W1 _ 1 _ _ _ hr1]; rfl
  have q0 : W1.cell? ⟨w.heap.size, 0, none⟩ = some (.int .i64 2) := by rw [cell_of_row W1 _ 0 _ _ _ hp1]; rfl
  have q3 : W1.cell? ⟨w.heap.size, 3, none⟩ = some (.int .i64 a0_3) := by rw [cell_of_row W1 _ 3 _ _ _ hp1]; rfl
  clear hB hr1 hs1 hb1 hCo
  refine calls_of_wp Try.func37 rfl ?_
  simp only [Try.ntmps37, List.size_toArray, List.length_cons, List.length_nil, Nat.reduceAdd, Nat.reduceSub, Array.replicate_succ, Array.replicate_zero, List.push_toArray, List.append_toArray, List.nil_append, List.cons_append]
  go_wp2_with (first | ((with_reducible refine gload 23 rfl ?_); refine wpList_load_blk rfl 23 _ rfl w.heap.size _ 23 _ rfl hp1 _ Try.underlying23 rfl info23 ?_) | fail)
  clear hW1 e0 e1 hlook hp1 q0 q3
  refine (owed_any 2 a0_1 a0_2 a0_3 a0_4 a0_5 a0_6 a0_7 a0_8 a0_9 f0 Ao co (own f1 xs) _ HCO.out (.inr ⟨rfl, hn, hn2, hd, hd2⟩) (fun r h => (hok r (own_mem h).1).1) ht0 ht (by omega)).mono ?_
  rintro e W2 ⟨rfl, hb2⟩
  have hp2 := (hb2.block _ (by have := HS.out; omega)).trans HP.out
  have hr2 := (hb2.block _ (by have := HS.out; omega)).trans HR.out
  have hbk2 := HBK.out.below hb2
  have hbw2 := HB.out.trans (hb2.mono HB.out.size)
  have hs2 : w.heap.size + 1 < W2.heap.size := by have := HS.out; have := hb2.size; omega
  clear HP HR HBK HB HS HCO hb2
  have HP := Aside0.mk hp2
  have HR := Aside0.mk hr2
  have HBK := Aside0.mk hbk2
  have HB := Aside0.mk hbw2
  have HS := Aside0.mk hs2
  have c0 : W2.cell? ⟨w.heap.size, 0, none⟩ = some (.int .i64 2) := by rw [cell_of_row W2 _ 0 _ _ _ hp2]; rfl
  have c1 : W2.cell? ⟨w.heap.size, 1, none⟩ = some (.int .i64 a0_1) := by rw [cell_of_row W2 _ 1 _ _ _ hp2]; rfl
  have c2 : W2.cell? ⟨w.heap.size, 2, none⟩ = some (.int .i64 a0_2) := by rw [cell_of_row W2 _ 2 _ _ _ hp2]; rfl
  have c3 : W2.cell? ⟨w.heap.size, 3, none⟩ = some (.int .i64 a0_3) := by rw [cell_of_row W2 _ 3 _ _ _ hp2]; rfl
  have c4 : W2.cell? ⟨w.heap.size, 4, none⟩ = some (.int .i64 a0_4) := by rw [cell_of_row W2 _ 4 _ _ _ hp2]; rfl
  have c5 : W2.cell? ⟨w.heap.size, 5, none⟩ = some (.int .i64 a0_5) := by rw [cell_of_row W2 _ 5 _ _ _ hp2]; rfl
  have c6 : W2.cell? ⟨w.heap.size, 6, none⟩ = some (.int .i64 a0_6) := by rw [cell_of_row W2 _ 6 _ _ _ hp2]; rfl
  have c7 : W2.cell? ⟨w.heap.size, 7, none⟩ = some (.int .i64 a0_7) := by rw [cell_of_row W2 _ 7 _ _ _ hp2]; rfl
  have c8 : W2.cell? ⟨w.heap.size, 8, none⟩ = some (.int .i64 a0_8) := by rw [cell_of_row W2 _ 8 _ _ _ hp2]; rfl
  have c9 : W2.cell? ⟨w.heap.size, 9, none⟩ = some (.int .i64 a0_9) := by rw [cell_of_row W2 _ 9 _ _ _ hp2]; rfl
  have r0 : W2.cell? ⟨w.heap.size + 1, 0, none⟩ = some (.int .i64 f0) := by rw [cell_of_row W2 _ 0 _ _ _ hr2]; rfl
  have r1 : W2.cell? ⟨w.heap.size + 1, 1, none⟩ = some (.string f1) := by rw [cell_of_row W2 _ 1 _ _ _ hr2]; rfl
  have r2 : W2.cell? ⟨w.heap.size + 1, 2, none⟩ = some (.int .i64 f2) := by rw [cell_of_row W2 _ 2 _ _ _ hr2]; rfl
  have r3 : W2.cell? ⟨w.heap.size + 1, 3, none⟩ = some (.int .i64 f3) := by rw [cell_of_row W2 _ 3 _ _ _ hr2]; rfl
  by_cases hz : owedX 2 a0_2 a0_3 a0_4 a0_5 f0 (own f1 xs) = 0
  case neg =>
    generalize hOW : owedX 2 a0_2 a0_3 a0_4 a0_5 f0 (own f1 xs) = ow at hz hobd ⊢
    have HOW := Aside0.mk hOW
    clear hOW hp2 hr2 hbk2 hbw2 hs2
    go_wp2_with fail
    go_quiet (fail)
    have HBE : Aside0 (Below w.heap.size w (W2.drewN nq)) := ⟨pw_below_drewN HB.out _⟩
    by_cases hle : ow + f2 ≤ a0_1
    · have hfin : dueX 2 a0_1 a0_2 a0_3 a0_4 a0_5 a0_6 xs f0 f1 f2 = 1 := by rw [dueX, HOW.out, if_neg (fun h => hz h.1)]; simp; omega
      have HF := Aside0.mk hfin
      clear hfin
      go_wp2_with fail
      go_ret
      exact ⟨by simp [HF.out], HBE.out⟩
    · have hfin : dueX 2 a0_1 a0_2 a0_3 a0_4 a0_5 a0_6 xs f0 f1 f2 = 0 := by rw [dueX, HOW.out, if_neg (fun h => hz h.1)]; simp; omega
      have HF := Aside0.mk hfin
      clear hfin
      go_wp2_with fail
      go_ret
      exact ⟨by simp [HF.out], HBE.out⟩
  case pos =>
    rw [hz]
    have hzz := Aside0.mk hz
    clear hz hobd hp2 hr2 hbk2 hbw2 hs2
    go_wp2_with fail
    refine start_ (n := 14) (S := fun w' => w'.cell? ⟨w.heap.size, 0, none⟩ = some (.int .i64 2) ∧ w'.cell? ⟨w.heap.size, 1, none⟩ = some (.int .i64 a0_1) ∧ w'.cell? ⟨w.heap.size, 2, none⟩ = some (.int .i64 a0_2) ∧ w'.cell? ⟨w.heap.size, 3, none⟩ = some (.int .i64 a0_3) ∧ w'.cell? ⟨w.heap.size, 4, none⟩ = some (.int .i64 a0_4) ∧ w'.cell? ⟨w.heap.size, 5, none⟩ = some (.int .i64 a0_5) ∧ w'.cell? ⟨w.heap.size, 6, none⟩ = some (.int .i64 a0_6) ∧ w'.cell? ⟨w.heap.size, 7, none⟩ = some (.int .i64 a0_7) ∧ w'.cell? ⟨w.heap.size, 8, none⟩ = some (.int .i64 a0_8) ∧ w'.cell? ⟨w.heap.size, 9, none⟩ = some (.int .i64 a0_9) ∧ w'.cell? ⟨w.heap.size + 1, 0, none⟩ = some (.int .i64 f0) ∧ w'.cell? ⟨w.heap.size + 1, 1, none⟩ = some (.string f1) ∧ w'.cell? ⟨w.heap.size + 1, 2, none⟩ = some (.int .i64 f2) ∧ w'.cell? ⟨w.heap.size + 1, 3, none⟩ = some (.int .i64 f3)) (ds := []) #[false, false, false, false, false, false, false, false, false, false, false, false, false, false] (by kernel_rfl) rfl rfl (⟨c0, c1, c2, c3, c4, c5, c6, c7, c8, c9, r0, r1, r2, r3⟩) (fun hHeld => ?_); refine with_tabW due_tab5 due_bits5 (fun HT_ HW_ => ?_)
    refine pure_ (i := 0) (N := some 23) (v := ?_) (a' := ?_) #[true, false, false, false, false, false, false, false, false, false, false, false, false, false] rfl rfl (any_of HT_.out (by kernel_rfl)) (fun _ _ _ h => h) (Or.inl ⟨by rfl, ?_⟩) ?_ ?_
    rotate_left
    · intro w'
      go_simp
      try with_reducible rfl
    rotate_left
    · simp only [Act.put, List.setIfInBounds_toArray, List.set_cons_zero, List.set_cons_succ]
      rfl
    refine pure_ (i := 1) (N := some 24) (v := ?_) (a' := ?_) #[true, true, false, false, false, false, false, false, false, false, false, false, false, false] rfl rfl (any_of HT_.out (by kernel_rfl)) (fun _ _ _ h => h) (Or.inl ⟨by rfl, ?_⟩) ?_ ?_
    rotate_left
    · intro w'
      go_simp
      try with_reducible rfl
    rotate_left
    · simp only [Act.put, List.setIfInBounds_toArray, List.set_cons_zero, List.set_cons_succ]
      rfl
    refine pure_ (i := 2) (N := some 25) (v := ?_) (a' := ?_) #[true, true, true, false, false, false, false, false, false, false, false, false, false, false] rfl rfl (any_of HT_.out (by kernel_rfl)) (fun _ _ _ h => h) (Or.inl ⟨by rfl, ?_⟩) ?_ ?_
    rotate_left
    · intro w'
      go_simp
      try with_reducible rfl
    rotate_left
    · simp only [Act.put, List.setIfInBounds_toArray, List.set_cons_zero, List.set_cons_succ]
      rfl
    refine pure_ (i := 3) (N := some 26) (v := ?_) (a' := ?_) #[true, true, true, true, false, false, false, false, false, false, false, false, false, false] rfl rfl (any_of HT_.out (by kernel_rfl)) (fun _ _ _ h => h) (Or.inl ⟨by rfl, ?_⟩) ?_ ?_
    rotate_left
    · intro w'
      go_simp
      try with_reducible rfl
    rotate_left
    · simp only [Act.put, List.setIfInBounds_toArray, List.set_cons_zero, List.set_cons_succ]
      rfl
    refine take_ (i := 4) (N := some 27) (v := ?_) (a' := ?_) #[true, true, true, true, true, false, false, false, false, false, false, false, false, false] rfl rfl (take_ofW HT_.out HW_.out (by kernel_rfl)) (fun _ _ _ h => h) (Or.inl ⟨by rfl, ?_⟩) hHeld ?_ ?_
    rotate_left
    · rintro w' ⟨s0, s1, s2, s3, s4, s5, s6, s7, s8, s9, s10, s11, s12, s13⟩
      go_simp
      try with_reducible rfl
    rotate_left
    · simp only [Act.put, List.setIfInBounds_toArray, List.set_cons_zero, List.set_cons_succ]
      rfl
    refine pure_ (i := 5) (N := some 28) (v := ?_) (a' := ?_) #[true, true, true, true, true, true, false, false, false, false, false, false, false, false] rfl rfl (any_of HT_.out (by kernel_rfl)) (fun _ _ _ h => h) (Or.inl ⟨by rfl, ?_⟩) ?_ ?_
    rotate_left
    · intro w'
      go_simp
      try with_reducible rfl
    rotate_left
    · simp only [Act.put, List.setIfInBounds_toArray, List.set_cons_zero, List.set_cons_succ]
      rfl
    refine take_ (i := 6) (N := some 29) (v := ?_) (a' := ?_) #[true, true, true, true, true, true, true, false, false, false, false, false, false, false] rfl rfl (take_ofW HT_.out HW_.out (by kernel_rfl)) (fun _ _ _ h => h) (Or.inl ⟨by rfl, ?_⟩) hHeld ?_ ?_
    rotate_left
    · rintro w' ⟨s0, s1, s2, s3, s4, s5, s6, s7, s8, s9, s10, s11, s12, s13⟩
      go_simp
      try with_reducible rfl
    rotate_left
    · simp only [Act.put, List.setIfInBounds_toArray, List.set_cons_zero, List.set_cons_succ]
      rfl
    refine pure_ (i := 9) (N := some 32) (v := ?_) (a' := ?_) #[true, true, true, true, true, true, true, false, false, true, false, false, false, false] rfl rfl (any_of HT_.out (by kernel_rfl)) (fun _ _ _ h => h) (Or.inl ⟨by rfl, ?_⟩) ?_ ?_
    rotate_left
    · intro w'
      go_simp
      try with_reducible rfl
    rotate_left
    · simp only [Act.put, List.setIfInBounds_toArray, List.set_cons_zero, List.set_cons_succ]
      rfl
    refine take_ (i := 10) (N := some 33) (v := ?_) (a' := ?_) #[true, true, true, true, true, true, true, false, false, true, true, false, false, false] rfl rfl (take_ofW HT_.out HW_.out (by kernel_rfl)) (fun _ _ _ h => h) (Or.inl ⟨by rfl, ?_⟩) hHeld ?_ ?_
    rotate_left
    · rintro w' ⟨s0, s1, s2, s3, s4, s5, s6, s7, s8, s9, s10, s11, s12, s13⟩
      go_simp
      try with_reducible rfl
    rotate_left
    · simp only [Act.put, List.setIfInBounds_toArray, List.set_cons_zero, List.set_cons_succ]
      rfl
    refine one_ (i := 7) (N := some 30) #[true, true, true, true, true, true, true, true, false, true, true, false, false, false] rfl rfl (one_of HT_.out (by kernel_rfl)) (by decide) (fun K hK => ?_)
    refine goes_ Try.func35 (by kernel_rfl) rfl #[.map (some b), .agg #[.int .i64 2, .int .i64 a0_1, .int .i64 a0_2, .int .i64 a0_3, .int .i64 a0_4, .int .i64 a0_5, .int .i64 a0_6, .int .i64 a0_7, .int .i64 a0_8, .int .i64 a0_9], .int .i64 f0] (by rfl) rfl rfl (by (try simp only [List.map_toArray, List.map_cons, List.map_nil]); first | done | rfl) ?_
    refine (holders_fn 2 a0_1 a0_2 a0_3 a0_4 a0_5 a0_6 a0_7 a0_8 a0_9 b xs f0 _ (HBK.out.below (Below.drew (Below.refl _ _))) (.inr ⟨rfl, hn, hn2, hd, hd2⟩) hok ht0 ht hlen).mono ?_
    rintro e W3 ⟨v, ks, rfl, hks, hR, hb3⟩
    refine ⟨_, rfl, ?_⟩
    have hb23 : Below W2.heap.size W2 W3 := (Below.drew (Below.refl _ _)).trans hb3
    have hp3 := (hb23.block _ (by have := HS.out; omega)).trans HP.out
    have hr3 := (hb23.block _ HS.out).trans HR.out
    have HBE := Aside0.mk (HB.out.trans (hb23.mono HB.out.size))
    have d0 : W3.cell? ⟨w.heap.size, 0, none⟩ = some (.int .i64 2) := by rw [cell_of_row W3 _ 0 _ _ _ hp3]; rfl
    have d1 : W3.cell? ⟨w.heap.size, 1, none⟩ = some (.int .i64 a0_1) := by rw [cell_of_row W3 _ 1 _ _ _ hp3]; rfl
    have d2 : W3.cell? ⟨w.heap.size, 2, none⟩ = some (.int .i64 a0_2) := by rw [cell_of_row W3 _ 2 _ _ _ hp3]; rfl
    have d3 : W3.cell? ⟨w.heap.size, 3, none⟩ = some (.int .i64 a0_3) := by rw [cell_of_row W3 _ 3 _ _ _ hp3]; rfl
    have d4 : W3.cell? ⟨w.heap.size, 4, none⟩ = some (.int .i64 a0_4) := by rw [cell_of_row W3 _ 4 _ _ _ hp3]; rfl
    have d5 : W3.cell? ⟨w.heap.size, 5, none⟩ = some (.int .i64 a0_5) := by rw [cell_of_row W3 _ 5 _ _ _ hp3]; rfl
    have d6 : W3.cell? ⟨w.heap.size, 6, none⟩ = some (.int .i64 a0_6) := by rw [cell_of_row W3 _ 6 _ _ _ hp3]; rfl
    have d7 : W3.cell? ⟨w.heap.size, 7, none⟩ = some (.int .i64 a0_7) := by rw [cell_of_row W3 _ 7 _ _ _ hp3]; rfl
    have d8 : W3.cell? ⟨w.heap.size, 8, none⟩ = some (.int .i64 a0_8) := by rw [cell_of_row W3 _ 8 _ _ _ hp3]; rfl
    have d9 : W3.cell? ⟨w.heap.size, 9, none⟩ = some (.int .i64 a0_9) := by rw [cell_of_row W3 _ 9 _ _ _ hp3]; rfl
    have t0 : W3.cell? ⟨w.heap.size + 1, 0, none⟩ = some (.int .i64 f0) := by rw [cell_of_row W3 _ 0 _ _ _ hr3]; rfl
    have t1 : W3.cell? ⟨w.heap.size + 1, 1, none⟩ = some (.string f1) := by rw [cell_of_row W3 _ 1 _ _ _ hr3]; rfl
    have t2 : W3.cell? ⟨w.heap.size + 1, 2, none⟩ = some (.int .i64 f2) := by rw [cell_of_row W3 _ 2 _ _ _ hr3]; rfl
    have t3 : W3.cell? ⟨w.heap.size + 1, 3, none⟩ = some (.int .i64 f3) := by rw [cell_of_row W3 _ 3 _ _ _ hr3]; rfl
    obtain ⟨Av, cv, ev, hcv, hCv⟩ := Kd.R_reads hR
    subst ev
    have hhl : ks.filter (owes 2 a0_2 a0_3 a0_4 a0_5 f0 xs) = holdL 2 a0_2 a0_3 a0_4 a0_5 f0 xs := by rw [holdL, ← keys_unique hks]
    rw [hhl] at hCv hcv ⊢
    have hhn : (holdL 2 a0_2 a0_3 a0_4 a0_5 f0 xs).length ≤ 9223372036854775807 := hCv.2.1
    clear hb3 hb23 hp3 hr3 hR hks hCv hhl
    refine hK.out _ _ ⟨d0, d1, d2, d3, d4, d5, d6, d7, d8, d9, t0, t1, t2, t3⟩ (fun hHeld => ?_)
    clear hK K
    generalize hHL : (holdL 2 a0_2 a0_3 a0_4 a0_5 f0 xs).length = hl at hhn ⊢
    have HHL := Aside0.mk hHL
    clear hHL hcv
    refine norm_ (a' := ?_) ?_ ?_
    rotate_left
    · show Act.put _ (some 30) _ = _
      simp only [Act.put, List.setIfInBounds_toArray, List.set_cons_zero, List.set_cons_succ]
      rfl
    by_cases hfull : a0_6 ≤ (hl : Int)
    ·
      refine pure_ (i := 8) (N := some 31) (v := ?_) (a' := ?_) #[true, true, true, true, true, true, true, true, true, true, true, false, false, false] rfl rfl (any_of HT_.out (by kernel_rfl)) (fun _ _ _ h => h) (Or.inl ⟨by rfl, ?_⟩) ?_ ?_
      rotate_left
      · intro w'
        go_simp
        try with_reducible rfl
      rotate_left
      · simp only [Act.put, List.setIfInBounds_toArray, List.set_cons_zero, List.set_cons_succ]
        rfl
      refine pure_ (i := 11) (N := some 34) (v := ?_) (a' := ?_) #[true, true, true, true, true, true, true, true, true, true, true, true, false, false] rfl rfl (any_of HT_.out (by kernel_rfl)) (fun _ _ _ h => h) (Or.inl ⟨by rfl, ?_⟩) ?_ ?_
      rotate_left
      · intro w'
        go_simp
        try with_reducible rfl
      rotate_left
      · simp only [Act.put, List.setIfInBounds_toArray, List.set_cons_zero, List.set_cons_succ]
        rfl
      refine pure_ (i := 12) (N := some 35) (v := ?_) (a' := ?_) #[true, true, true, true, true, true, true, true, true, true, true, true, true, false] rfl rfl (any_of HT_.out (by kernel_rfl)) (fun _ _ _ h => h) (Or.inl ⟨by rfl, ?_⟩) ?_ ?_
      rotate_left
      · intro w'
        go_simp
        try with_reducible rfl
      rotate_left
      · simp only [Act.put, List.setIfInBounds_toArray, List.set_cons_zero, List.set_cons_succ]
        rfl
      refine pure_ (i := 13) (N := some 22) (v := ?_) (a' := ?_) #[true, true, true, true, true, true, true, true, true, true, true, true, true, true] rfl rfl (any_of HT_.out (by kernel_rfl)) (fun _ _ _ h => h) (Or.inl ⟨by rfl, ?_⟩) ?_ ?_
      rotate_left
      · intro w'
        go_simp
        try with_reducible rfl
      rotate_left
      · simp only [Act.put, List.setIfInBounds_toArray, List.set_cons_zero, List.set_cons_succ]
        rfl
      refine done_ (done_of HT_.out (by kernel_rfl)) ?_
      have hfin : dueX 2 a0_1 a0_2 a0_3 a0_4 a0_5 a0_6 xs f0 f1 f2 = 2 := by rw [dueX, if_pos ⟨hzz.out, by rw [HHL.out]; exact hfull⟩]
      have HF := Aside0.mk hfin
      clear hfin
      go_wp2_with fail
      go_ret
      exact ⟨by simp [HF.out], HBE.out⟩
    ·
      refine pure_ (i := 8) (N := some 31) (v := ?_) (a' := ?_) #[true, true, true, true, true, true, true, true, true, true, true, false, false, false] rfl rfl (any_of HT_.out (by kernel_rfl)) (fun _ _ _ h => h) (Or.inl ⟨by rfl, ?_⟩) ?_ ?_
      rotate_left
      · intro w'
        go_simp
        try with_reducible rfl
      rotate_left
      · simp only [Act.put, List.setIfInBounds_toArray, List.set_cons_zero, List.set_cons_succ]
        rfl
      refine pure_ (i := 11) (N := some 34) (v := ?_) (a' := ?_) #[true, true, true, true, true, true, true, true, true, true, true, true, false, false] rfl rfl (any_of HT_.out (by kernel_rfl)) (fun _ _ _ h => h) (Or.inl ⟨by rfl, ?_⟩) ?_ ?_
      rotate_left
      · intro w'
        go_simp
        try with_reducible rfl
      rotate_left
      · simp only [Act.put, List.setIfInBounds_toArray, List.set_cons_zero, List.set_cons_succ]
        rfl
      refine pure_ (i := 12) (N := some 35) (v := ?_) (a' := ?_) #[true, true, true, true, true, true, true, true, true, true, true, true, true, false] rfl rfl (any_of HT_.out (by kernel_rfl)) (fun _ _ _ h => h) (Or.inl ⟨by rfl, ?_⟩) ?_ ?_
      rotate_left
      · intro w'
        go_simp
        try with_reducible rfl
      rotate_left
      · simp only [Act.put, List.setIfInBounds_toArray, List.set_cons_zero, List.set_cons_succ]
        rfl
      refine pure_ (i := 13) (N := some 22) (v := ?_) (a' := ?_) #[true, true, true, true, true, true, true, true, true, true, true, true, true, true] rfl rfl (any_of HT_.out (by kernel_rfl)) (fun _ _ _ h => h) (Or.inl ⟨by rfl, ?_⟩) ?_ ?_
      rotate_left
      · intro w'
        go_simp
        try with_reducible rfl
      rotate_left
      · simp only [Act.put, List.setIfInBounds_toArray, List.set_cons_zero, List.set_cons_succ]
        rfl
      refine done_ (done_of HT_.out (by kernel_rfl)) ?_
      have HOW := hzz
      by_cases hle : f2 ≤ a0_1
      · have hfin : dueX 2 a0_1 a0_2 a0_3 a0_4 a0_5 a0_6 xs f0 f1 f2 = 1 := by rw [dueX, HOW.out, if_neg (fun h => hfull (by have := h.2; rwa [HHL.out] at this))]; simp; omega
        have HF := Aside0.mk hfin
        clear hfin
        go_wp2_with fail
        go_ret
        exact ⟨by simp [HF.out], HBE.out⟩
      · have hfin : dueX 2 a0_1 a0_2 a0_3 a0_4 a0_5 a0_6 xs f0 f1 f2 = 0 := by rw [dueX, HOW.out, if_neg (fun h => hfull (by have := h.2; rwa [HHL.out] at this))]; simp; omega
        have HF := Aside0.mk hfin
        clear hfin
        go_wp2_with fail
        go_ret
        exact ⟨by simp [HF.out], HBE.out⟩

theorem due_any (a0_0 a0_1 a0_2 a0_3 a0_4 a0_5 a0_6 a0_7 a0_8 a0_9 : Int) (b : Nat) (xs : List S42) (f0 : Int) (f1 : ByteArray) (f2 f3 : Int) (w : World) (hB : Book w b xs) (hp : okP a0_0 a0_2 a0_3 a0_4 a0_5) (hcap : 1 ≤ a0_1) (hcap2 : a0_1 ≤ 1048576) (hok : ∀ r ∈ xs, okR r ∧ r.f1.size ≤ maxLen)
    (ht0 : 0 ≤ f0) (ht : f0 ≤ 1099511627776) (hk : f1.size ≤ maxLen) (hc : 1 ≤ f2) (hc2 : f2 ≤ 1048576) (hlen : xs.length ≤ 10000) :
    Calls Try.prog 37 #[.map (some b), .agg #[.int .i64 a0_0, .int .i64 a0_1, .int .i64 a0_2, .int .i64 a0_3, .int .i64 a0_4, .int .i64 a0_5, .int .i64 a0_6, .int .i64 a0_7, .int .i64 a0_8, .int .i64 a0_9], .agg #[.int .i64 f0, .string f1, .int .i64 f2, .int .i64 f3]] w fun e w' =>
      e = .returned (.int .i64 (dueX a0_0 a0_1 a0_2 a0_3 a0_4 a0_5 a0_6 xs f0 f1 f2)) ∧ Below w.heap.size w w' := by
  rcases hp with ⟨rfl, h1, h2, h3, h4⟩ | ⟨rfl, h1, h2, h3, h4⟩
  · exact due_fn1 a0_1 a0_2 a0_3 a0_4 a0_5 a0_6 a0_7 a0_8 a0_9 b xs f0 f1 f2 f3 w hB h1 h2 h3 h4 hcap hcap2 hok ht0 ht hk hc hc2 hlen
  · exact due_fn2 a0_1 a0_2 a0_3 a0_4 a0_5 a0_6 a0_7 a0_8 a0_9 b xs f0 f1 f2 f3 w hB h1 h2 h3 h4 hcap hcap2 hok ht0 ht hk hc hc2 hlen
end Go.Proofs.Ytmlpahjmebfgbaa.Own
