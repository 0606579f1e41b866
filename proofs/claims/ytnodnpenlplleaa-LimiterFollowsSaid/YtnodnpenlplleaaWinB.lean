/- Layer 8, the window, where the policy may be: Fresh. -/
import Derived.Test.YtnodnpenlplleaaWinA
namespace Go.Proofs.Ytnodnpenlplleaa.Own
open Go.RowKit Go.Proofs.YtnodnpenlplleaaW.PrintWords Go.Proofs.YtnodnpenlplleaaW.PrintLast Go.Proofs.YtnodnpenlplleaaW.PrintMore
set_option linter.unusedVariables false
set_option linter.unusedSimpArgs false
attribute [local go_sem] Oper.semAt_some
theorem infoInt : (Try.prog.info? 3).map (fun i => (i.zero, i.size, i.bytes)) = some (some (.int .i64 0), 1, 8) := by kernel_rfl
theorem infoSums : (Try.prog.info? 106).map (·.size) = some 2 := by kernel_rfl
def fresh__T3 : Bool × List (List Nat × List Nat) := (true, [([], []), ([], []), ([0, 1], [0, 1]), ([], []), ([3], [3]), ([4, 4], [4]), ([2, 5], [2, 5]), ([6, 2, 0, 1, 2, 3, 4, 5, 6], [6])])
def fresh__B3 : List Nat := [0, 0, 3, 0, 8, 24, 63, 127]
theorem fresh__tab3 : rtab .any (opsOf Try.f81 3) = fresh__T3 := by kernel_rfl
theorem fresh__bits3 : waitsOk fresh__T3.2 fresh__B3 = true := by kernel_rfl

set_option maxRecDepth 100000 in
set_option maxHeartbeats 1000000 in
theorem Fresh_fn (p : Pol) (tick : Int) (w : World) (hp : p.ok) (hk : p.kind = 2) (h0 : 0 ≤ tick) (h1 : tick ≤ 1099511627776) :
    Calls Try.prog 81 #[p.val, .int .i64 tick] w fun e w' => ∃ v, e = .returned (.agg #[.int .i64 (tick / p.width), v]) ∧ Kd.R (Kd.int .i64) 3 w' w.heap.size (fun _ => True) v (List.replicate p.count.toNat 0) ∧ Below w.heap.size w w' := by
  have HM := Aside0.mk (fun w' => wmeans_fn p w' hp hk)
  have HGR := Aside0.mk (fun w' => Grid_fn p tick w' hp hk h0 h1)
  have hpi := Pol.is hp
  obtain ⟨kind, cap, num, den, width, count, keys, slots, every, seg⟩ := p
  simp only at hk hpi
  subst hk
  simp only [Pol.val, Pol.cells] at HM HGR ⊢
  have hc0 : 1 ≤ count := by omega
  have hc1 : count ≤ 32 := by omega
  have hg : ((w.alloc (.cells #[.int .i64 2, .int .i64 cap, .int .i64 num, .int .i64 den, .int .i64 width, .int .i64 count, .int .i64 keys, .int .i64 slots, .int .i64 every, .int .i64 seg] 23 (0, 0))).alloc (.cells #[.int .i64 0, .slice none 0 0] 106 (0, 0))).heap[w.heap.size]? = some (.cells #[.int .i64 2, .int .i64 cap, .int .i64 num, .int .i64 den, .int .i64 width, .int .i64 count, .int .i64 keys, .int .i64 slots, .int .i64 every, .int .i64 seg] 23 (0, 0)) := ((Below.refl (w.heap.size + 1) _).alloc (by simp) _).block _ (by omega) |>.trans (heap_alloc_new w _)
  have hr : ((w.alloc (.cells #[.int .i64 2, .int .i64 cap, .int .i64 num, .int .i64 den, .int .i64 width, .int .i64 count, .int .i64 keys, .int .i64 slots, .int .i64 every, .int .i64 seg] 23 (0, 0))).alloc (.cells #[.int .i64 0, .slice none 0 0] 106 (0, 0))).heap[w.heap.size + 1]? = some (.cells #[.int .i64 0, .slice none 0 0] 106 (0, 0)) := by
    have := heap_alloc_new (w.alloc (.cells #[.int .i64 2, .int .i64 cap, .int .i64 num, .int .i64 den, .int .i64 width, .int .i64 count, .int .i64 keys, .int .i64 slots, .int .i64 every, .int .i64 seg] 23 (0, 0))) (.cells #[.int .i64 0, .slice none 0 0] 106 (0, 0)); simpa using this
  have hb : Below w.heap.size w ((w.alloc (.cells #[.int .i64 2, .int .i64 cap, .int .i64 num, .int .i64 den, .int .i64 width, .int .i64 count, .int .i64 keys, .int .i64 slots, .int .i64 every, .int .i64 seg] 23 (0, 0))).alloc (.cells #[.int .i64 0, .slice none 0 0] 106 (0, 0))) := ((Below.refl _ w).alloc (Nat.le_refl _) _).alloc (by simp) _
  have HG := Aside0.mk (And.intro hg (And.intro hr hb))
  clear hg hr hb hpi hp
  go_enter Try.func81, Try.ntmps81
  go_wp2_with (first | ((with_reducible refine gload 23 rfl ?_); refine wpList_load_blk rfl 23 _ rfl w.heap.size _ 23 _ rfl HG.out.1 _ Try.underlying23 rfl infoPol ?_) | fail)
  refine (HM.out _).mono ?_
  rintro e w1 ⟨rfl, hb1⟩
  have HS1 := Aside0.mk ((HeldB.one (x := (w.heap.size + 1, .cells #[.int .i64 0, .slice none 0 0] 106 (0, 0))) ((hb1.block _ (by simp)).trans HG.out.2.1) (HG.out.2.2.trans (hb1.mono (by simp; omega)))).more (x := (w.heap.size, .cells #[.int .i64 2, .int .i64 cap, .int .i64 num, .int .i64 den, .int .i64 width, .int .i64 count, .int .i64 keys, .int .i64 slots, .int .i64 every, .int .i64 seg] 23 (0, 0))) ((hb1.block _ (by simp; omega)).trans HG.out.1))
  clear hb1 HG HM
  go_wp2_with fail
  refine start_ (n := 8) (S := HeldB w [(w.heap.size, .cells #[.int .i64 2, .int .i64 cap, .int .i64 num, .int .i64 den, .int .i64 width, .int .i64 count, .int .i64 keys, .int .i64 slots, .int .i64 every, .int .i64 seg] 23 (0, 0)), (w.heap.size + 1, .cells #[.int .i64 0, .slice none 0 0] 106 (0, 0))]) (ds := [7]) #[false, false, false, false, false, false, false, false] (by kernel_rfl) rfl rfl (HS1.out.drew) (fun hHeld => ?_); refine with_tabW fresh__tab3 fresh__bits3 (fun HT_ HW_ => ?_)
  refine pure_ (i := 1) (N := some 10) (v := ?_) (a' := ?_) #[false, true, false, false, false, false, false, false] rfl rfl (any_of HT_.out (by kernel_rfl)) (fun _ _ _ h => h) (Or.inl ⟨by rfl, ?_⟩) ?_ ?_
  rotate_left
  · intro w'
    go_simp
    try with_reducible rfl
  rotate_left
  · simp only [Act.put, List.setIfInBounds_toArray, List.set_cons_zero, List.set_cons_succ]
    rfl
  refine pure_ (i := 3) (N := some 12) (v := ?_) (a' := ?_) #[false, true, false, true, false, false, false, false] rfl rfl (any_of HT_.out (by kernel_rfl)) (fun _ _ _ h => h) (Or.inl ⟨by rfl, ?_⟩) ?_ ?_
  rotate_left
  · intro w'
    go_simp
    try with_reducible rfl
  rotate_left
  · simp only [Act.put, List.setIfInBounds_toArray, List.set_cons_zero, List.set_cons_succ]
    rfl
  refine take_ (i := 0) (N := some 9) (v := .agg #[.int .i64 2, .int .i64 cap, .int .i64 num, .int .i64 den, .int .i64 width, .int .i64 count, .int .i64 keys, .int .i64 slots, .int .i64 every, .int .i64 seg]) (a' := ?_) #[true, true, false, true, false, false, false, false] rfl rfl (take_ofW HT_.out HW_.out (by kernel_rfl)) (fun _ _ _ h => h) (yields_blk (by rfl) 23 _ rfl w.heap.size rfl (fun w' hS' => hS'.1 (w.heap.size, .cells #[.int .i64 2, .int .i64 cap, .int .i64 num, .int .i64 den, .int .i64 width, .int .i64 count, .int .i64 keys, .int .i64 slots, .int .i64 every, .int .i64 seg] 23 (0, 0)) (by simp)) Try.underlying23 rfl infoPol) hHeld ?_ ?_
  rotate_left
  · simp only [Act.put, List.setIfInBounds_toArray, List.set_cons_zero, List.set_cons_succ]
    rfl
  refine take_ (i := 4) (N := some 13) (v := ?_) (a' := ?_) #[true, true, false, true, true, false, false, false] rfl rfl (take_ofW HT_.out HW_.out (by kernel_rfl)) (fun _ _ _ h => h) (Or.inl ⟨by rfl, ?_⟩) hHeld ?_ ?_
  rotate_left
  · intro w' hS'
    have hx := hS'.1 (w.heap.size, .cells #[.int .i64 2, .int .i64 cap, .int .i64 num, .int .i64 den, .int .i64 width, .int .i64 count, .int .i64 keys, .int .i64 slots, .int .i64 every, .int .i64 seg] 23 (0, 0)) (by simp)
    have c0 : w'.cell? ⟨w.heap.size, 5, none⟩ = some (.int .i64 count) := by rw [cell_of_row w' _ 5 _ _ _ hx]; rfl
    go_simp
    try with_reducible rfl
  rotate_left
  · simp only [Act.put, List.setIfInBounds_toArray, List.set_cons_zero, List.set_cons_succ]
    rfl
  refine two_ (i := 2) (j := 5) (Ni := some 11) (Nj := some 14) #[true, true, true, true, true, false, false, false] #[true, true, false, true, true, true, false, false] rfl rfl rfl rfl (two_of HT_.out (by kernel_rfl)) (by decide) (by decide) ?_ ?_
  · intro K hK
    refine goes_ Try.func88 (by kernel_rfl) rfl #[.agg #[.int .i64 2, .int .i64 cap, .int .i64 num, .int .i64 den, .int .i64 width, .int .i64 count, .int .i64 keys, .int .i64 slots, .int .i64 every, .int .i64 seg], .int .i64 tick] (by rfl) rfl rfl (by simp [Act.eval]) ?_
    refine (HGR.out _).mono ?_
    rintro e w2 ⟨rfl, hb⟩
    refine ⟨_, rfl, ?_⟩
    simp only [Act.put, List.setIfInBounds_toArray, List.set_cons_zero, List.set_cons_succ]
    refine hK.out _ _ (hHeld.step hb) (fun hHeld => ?_)
    clear hK K
    refine one_ (i := 5) (N := some 14) #[true, true, true, true, true, true, false, false] rfl rfl (one_of HT_.out (by kernel_rfl)) (by decide) (fun K hK => ?_)
    refine Kd.R_make_step (Kd.int .i64) (w0 := w) w.heap.size 3 (by rfl) rfl 61 _ _ rfl count rfl rfl Try.underlying61 (.int .i64 0) 8 infoInt rfl (by decide) (by decide) (0 : Int) (ok := fun _ => True) (okp := fun _ => True) rfl (fun _ _ => trivial) trivial (by omega) (by omega) hHeld.2 hHeld.2.size ?_
    intro v WM hRM hbM hgM _
    obtain ⟨Av, cv, ev⟩ := Kd.R_slice hRM
    subst ev
    rw [List.length_replicate] at hRM ⊢
    have HRM := Aside0.mk hRM
    show K (Act.put _ (some 14) _) _
    simp only [Act.put, List.setIfInBounds_toArray, List.set_cons_zero, List.set_cons_succ]
    refine hK.out _ _ (hHeld.step ⟨hgM.os, hgM.tape, hgM.output, hgM.size, fun k hk => hgM.block k hk (by simp)⟩) (fun hHeld => ?_)
    clear hK K hRM hbM hgM
    have HRF := HRM
    refine pure_ (i := 6) (N := some 15) (v := ?_) (a' := ?_) #[true, true, true, true, true, true, true, false] rfl rfl (any_of HT_.out (by kernel_rfl)) (fun _ _ _ h => h) (Or.inl ⟨by rfl, ?_⟩) ?_ ?_
    rotate_left
    · intro w'
      go_simp
      try with_reducible rfl
    rotate_left
    · simp only [Act.put, List.setIfInBounds_toArray, List.set_cons_zero, List.set_cons_succ]
      rfl
    refine last_ (i := 7) (N := none) #[true, true, true, true, true, true, true, true] rfl rfl (one_of HT_.out (by kernel_rfl)) (by decide) (fun K hK => ?_)
    rw [if_pos (by rfl)]
    refine wp_store_blk 106 _ _ rfl (w.heap.size + 1) 0 #[.int .i64 0, .slice none 0 0] 106 #[.int .i64 (tick / width), .slice Av count.toNat cv] rfl rfl (hHeld.1 (w.heap.size + 1, .cells #[.int .i64 0, .slice none 0 0] 106 (0, 0)) (by simp)) (by simp) infoSums (by simp [Value.oneCell']) ?_
    intro w9 hx9 ho9
    show K (Act.put _ none _) _
    simp only [Act.put]
    refine hK.out _ _ ?_
    clear hK K
    refine done_ (done_of HT_.out (by kernel_rfl)) ?_
    have HF := Aside0.mk (And.intro (R_only HRF.out (hHeld.1 (w.heap.size + 1, .cells #[.int .i64 0, .slice none 0 0] 106 (0, 0)) (by simp)) (by decide) ho9) (And.intro (hHeld.2.trans (ho9.below (by omega))) hx9))
    clear hHeld HT_ HW_ hx9 ho9
    go_wp2_with fail
    exact ⟨rfl, _, results_cell rfl _ _ (w.heap.size + 1) 106 _ _ _ rfl HF.out.2.2 Try.underlying106 rfl infoSums, _, rfl, HF.out.1, HF.out.2.1⟩
  · intro K hK
    refine Kd.R_make_step (Kd.int .i64) (w0 := w) w.heap.size 3 (by rfl) rfl 61 _ _ rfl count rfl rfl Try.underlying61 (.int .i64 0) 8 infoInt rfl (by decide) (by decide) (0 : Int) (ok := fun _ => True) (okp := fun _ => True) rfl (fun _ _ => trivial) trivial (by omega) (by omega) hHeld.2 hHeld.2.size ?_
    intro v WM hRM hbM hgM _
    obtain ⟨Av, cv, ev⟩ := Kd.R_slice hRM
    subst ev
    rw [List.length_replicate] at hRM ⊢
    have HRM := Aside0.mk hRM
    show K (Act.put _ (some 14) _) _
    simp only [Act.put, List.setIfInBounds_toArray, List.set_cons_zero, List.set_cons_succ]
    refine hK.out _ _ (hHeld.step ⟨hgM.os, hgM.tape, hgM.output, hgM.size, fun k hk => hgM.block k hk (by simp)⟩) (fun hHeld => ?_)
    clear hK K hRM hbM hgM
    refine one_ (i := 2) (N := some 11) #[true, true, true, true, true, true, false, false] rfl rfl (one_of HT_.out (by kernel_rfl)) (by decide) (fun K hK => ?_)
    refine goes_ Try.func88 (by kernel_rfl) rfl #[.agg #[.int .i64 2, .int .i64 cap, .int .i64 num, .int .i64 den, .int .i64 width, .int .i64 count, .int .i64 keys, .int .i64 slots, .int .i64 every, .int .i64 seg], .int .i64 tick] (by rfl) rfl rfl (by simp [Act.eval]) ?_
    refine (HGR.out _).mono ?_
    rintro e w3 ⟨rfl, hb⟩
    refine ⟨_, rfl, ?_⟩
    simp only [Act.put, List.setIfInBounds_toArray, List.set_cons_zero, List.set_cons_succ]
    have HRF := Aside0.mk (Kd.R_below HRM.out hb)
    refine hK.out _ _ (hHeld.step hb) (fun hHeld => ?_)
    clear hK K
    refine pure_ (i := 6) (N := some 15) (v := ?_) (a' := ?_) #[true, true, true, true, true, true, true, false] rfl rfl (any_of HT_.out (by kernel_rfl)) (fun _ _ _ h => h) (Or.inl ⟨by rfl, ?_⟩) ?_ ?_
    rotate_left
    · intro w'
      go_simp
      try with_reducible rfl
    rotate_left
    · simp only [Act.put, List.setIfInBounds_toArray, List.set_cons_zero, List.set_cons_succ]
      rfl
    refine last_ (i := 7) (N := none) #[true, true, true, true, true, true, true, true] rfl rfl (one_of HT_.out (by kernel_rfl)) (by decide) (fun K hK => ?_)
    rw [if_pos (by rfl)]
    refine wp_store_blk 106 _ _ rfl (w.heap.size + 1) 0 #[.int .i64 0, .slice none 0 0] 106 #[.int .i64 (tick / width), .slice Av count.toNat cv] rfl rfl (hHeld.1 (w.heap.size + 1, .cells #[.int .i64 0, .slice none 0 0] 106 (0, 0)) (by simp)) (by simp) infoSums (by simp [Value.oneCell']) ?_
    intro w9 hx9 ho9
    show K (Act.put _ none _) _
    simp only [Act.put]
    refine hK.out _ _ ?_
    clear hK K
    refine done_ (done_of HT_.out (by kernel_rfl)) ?_
    have HF := Aside0.mk (And.intro (R_only HRF.out (hHeld.1 (w.heap.size + 1, .cells #[.int .i64 0, .slice none 0 0] 106 (0, 0)) (by simp)) (by decide) ho9) (And.intro (hHeld.2.trans (ho9.below (by omega))) hx9))
    clear hHeld HT_ HW_ hx9 ho9
    go_wp2_with fail
    exact ⟨rfl, _, results_cell rfl _ _ (w.heap.size + 1) 106 _ _ _ rfl HF.out.2.2 Try.underlying106 rfl infoSums, _, rfl, HF.out.1, HF.out.2.1⟩
end Go.Proofs.Ytnodnpenlplleaa.Own
