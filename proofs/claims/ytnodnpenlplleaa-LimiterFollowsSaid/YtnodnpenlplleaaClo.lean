/- Layer 9: another ledger alike. -/
import Derived.Test.YtnodnpenlplleaaLedQ
import Derived.Shelf.SlMaps.Clone
namespace Go.Proofs.Ytnodnpenlplleaa.Own
open Go.RowKit Go.Proofs.YtnodnpenlplleaaW.PrintWords Go.Proofs.YtnodnpenlplleaaW.PrintLast Go.Proofs.YtnodnpenlplleaaW.PrintMore
open Go.Maps (Keyed)
set_option linter.unusedVariables false
set_option linter.unusedSimpArgs false
attribute [local go_sem] Oper.semAt_some
def sh_mclone_ren : Go.Shelf.Ren := ⟨fun | 5 => 44 | 7 => 66 | n => n, fun | 4 => 4 | 20 => 20 | 23 => 78 | 25 => 9 | 3 => 85 | n => n, fun | n => n⟩
theorem sh_mclone : Go.Proofs.SlLaysW.n5 Try.prog sh_mclone_ren := {
  mixed := by kernel_rfl
  f5 := ⟨Try.f44.name, by decide, Try.func44.trans (congrArg some (by kernel_rfl))⟩
  f7 := Try.func66.trans (congrArg some (by kernel_rfl))
  t4 := Try.underlying4
  a4 := Try.isAgg4
  z4 := Try.sizeOf4
  v4 := Try.zeroValue4
  t20 := Try.underlying20
  a20 := Try.isAgg20
  z20 := Try.sizeOf20
  v20 := Try.zeroValue20
  t23 := Try.underlying78
  a23 := Try.isAgg78
  z23 := Try.sizeOf78
  v23 := Try.zeroValue78 }
/-- The block mb is a map that says what the rows say. -/
def MapL (w : World) (mb : Nat) (rows : Rws) : Prop := ∃ D, w.ownsMap Try.prog 9 rawR mb rows.length D ∧ LedD w D rows
theorem MapL.below {w w' : World} {mb : Nat} {rows : Rws} (h : MapL w mb rows) (hb : Below w.heap.size w w') : MapL w' mb rows := by
  obtain ⟨D, k1, k2⟩ := h
  refine ⟨D, ?_, k2.move fun k cur hc => hb.block k (Array.getElem?_eq_some_iff.1 hc).1⟩
  have hlt := k1.lt
  obtain ⟨es, clock, hm, rest⟩ := k1
  exact ⟨es, clock, (hb.block mb hlt).trans hm, rest⟩
theorem cloneM_fn (W : World) (mb : Nat) (rows : Rws) (h : MapL W mb rows) :
    Calls Try.prog 44 #[.map (some mb)] W fun e w' => e = .returned (.map (some W.heap.size)) ∧ MapL w' W.heap.size rows ∧ Below W.heap.size W w' := by
  obtain ⟨D, hown, hD⟩ := h
  refine (AnyW.maps_Clone_owns sh_mclone 9 rawR mb rows.length D W hown).mono ?_
  rintro e w' ⟨he, h1, _, hb⟩
  exact ⟨he, ⟨D, h1, hD.move fun k cur hc => hb.block k (Array.getElem?_eq_some_iff.1 hc).1⟩, hb⟩
def lclo__T1 : Bool × List (List Nat × List Nat) := (true, [([], []), ([0], [0]), ([1], [1]), ([2], [2]), ([], []), ([4], [4]), ([5], [5]), ([6], [6]), ([], []), ([8], [8]), ([9], [9]), ([10], [10]), ([11], [11]), ([3, 7, 12], [3, 7, 12]), ([13], [13]), ([14, 12, 0, 1, 2, 3, 4, 5, 6, 7, 8, 9, 10, 11, 12, 13, 14], [14])])
def lclo__B1 : List Nat := [0, 1, 3, 7, 0, 16, 48, 112, 0, 256, 768, 1792, 3840, 8191, 16383, 32767]
theorem lclo__tab1 : rtab .any (opsOf Try.f21 1) = lclo__T1 := by kernel_rfl
theorem lclo__bits1 : waitsOk lclo__T1.2 lclo__B1 = true := by kernel_rfl

set_option maxRecDepth 100000 in
set_option maxHeartbeats 1000000 in
theorem LClone_fn (w : World) (sb mb : Nat) (p : Pol) (tick : Int) (rows : Rws) (h : Led w sb mb p tick rows) :
    Calls Try.prog 21 #[.pointer (some ⟨sb, 0, none⟩)] w fun e w' => ∃ s2 m2, e = .returned (.pointer (some ⟨s2, 0, none⟩)) ∧ w.heap.size ≤ s2 ∧ w.heap.size ≤ m2 ∧ Led w' s2 m2 p tick rows ∧ Below w.heap.size w w' := by
  have HS0 := Aside0.mk (HeldB.one (w0 := w) (x := (sb, .cells (ledC p tick mb) 80 (0, 0))) h.blk (Below.refl _ w))
  have HMC := Aside0.mk (fun w' (hb : Below w.heap.size w w') => cloneM_fn w' mb rows (MapL.below h.map hb))
  have HLM := Aside0.mk (fun (W : World) (s m : Nat) (h1 : W.heap[s]? = some (.cells (ledC p tick m) 80 (0, 0))) (h2 : MapL W m rows) => (⟨h1, h2⟩ : Led W s m p tick rows))
  clear h
  obtain ⟨kind, cap, num, den, width, count, keys, slots, every, seg⟩ := p
  simp only [ledC] at HS0 HLM
  go_enter Try.func21, Try.ntmps21
  go_wp2_with fail
  refine start_ (n := 16) (S := HeldB w [(sb, .cells #[.int .i64 kind, .int .i64 cap, .int .i64 num, .int .i64 den, .int .i64 width, .int .i64 count, .int .i64 keys, .int .i64 slots, .int .i64 every, .int .i64 seg, .int .i64 tick, .map (some mb)] 80 (0, 0))]) (ds := []) #[false, false, false, false, false, false, false, false, false, false, false, false, false, false, false, false] (by kernel_rfl) rfl rfl (HS0.out.drew) (fun hHeld => ?_); refine with_tabW lclo__tab1 lclo__bits1 (fun HT_ HW_ => ?_)
  refine pure_ (i := 0) (N := some 3) (v := ?_) (a' := ?_) #[true, false, false, false, false, false, false, false, false, false, false, false, false, false, false, false] rfl rfl (any_of HT_.out (by kernel_rfl)) (fun _ _ _ h => h) (Or.inl ⟨by rfl, ?_⟩) ?_ ?_
  rotate_left
  · intro w'
    go_simp
    try with_reducible rfl
  rotate_left
  · simp only [Act.put, List.setIfInBounds_toArray, List.set_cons_zero, List.set_cons_succ]
    rfl
  refine pure_ (i := 4) (N := some 7) (v := ?_) (a' := ?_) #[true, false, false, false, true, false, false, false, false, false, false, false, false, false, false, false] rfl rfl (any_of HT_.out (by kernel_rfl)) (fun _ _ _ h => h) (Or.inl ⟨by rfl, ?_⟩) ?_ ?_
  rotate_left
  · intro w'
    go_simp
    try with_reducible rfl
  rotate_left
  · simp only [Act.put, List.setIfInBounds_toArray, List.set_cons_zero, List.set_cons_succ]
    rfl
  refine pure_ (i := 8) (N := some 11) (v := ?_) (a' := ?_) #[true, false, false, false, true, false, false, false, true, false, false, false, false, false, false, false] rfl rfl (any_of HT_.out (by kernel_rfl)) (fun _ _ _ h => h) (Or.inl ⟨by rfl, ?_⟩) ?_ ?_
  rotate_left
  · intro w'
    go_simp
    try with_reducible rfl
  rotate_left
  · simp only [Act.put, List.setIfInBounds_toArray, List.set_cons_zero, List.set_cons_succ]
    rfl
  refine pure_ (i := 1) (N := some 4) (v := ?_) (a' := ?_) #[true, true, false, false, true, false, false, false, true, false, false, false, false, false, false, false] rfl rfl (any_of HT_.out (by kernel_rfl)) (fun _ _ _ h => h) (Or.inl ⟨by rfl, ?_⟩) ?_ ?_
  rotate_left
  · intro w'
    go_simp
    try with_reducible rfl
  rotate_left
  · simp only [Act.put, List.setIfInBounds_toArray, List.set_cons_zero, List.set_cons_succ]
    rfl
  refine pure_ (i := 5) (N := some 8) (v := ?_) (a' := ?_) #[true, true, false, false, true, true, false, false, true, false, false, false, false, false, false, false] rfl rfl (any_of HT_.out (by kernel_rfl)) (fun _ _ _ h => h) (Or.inl ⟨by rfl, ?_⟩) ?_ ?_
  rotate_left
  · intro w'
    go_simp
    try with_reducible rfl
  rotate_left
  · simp only [Act.put, List.setIfInBounds_toArray, List.set_cons_zero, List.set_cons_succ]
    rfl
  refine pure_ (i := 9) (N := some 12) (v := ?_) (a' := ?_) #[true, true, false, false, true, true, false, false, true, true, false, false, false, false, false, false] rfl rfl (any_of HT_.out (by kernel_rfl)) (fun _ _ _ h => h) (Or.inl ⟨by rfl, ?_⟩) ?_ ?_
  rotate_left
  · intro w'
    go_simp
    try with_reducible rfl
  rotate_left
  · simp only [Act.put, List.setIfInBounds_toArray, List.set_cons_zero, List.set_cons_succ]
    rfl
  refine pure_ (i := 2) (N := some 5) (v := ?_) (a' := ?_) #[true, true, true, false, true, true, false, false, true, true, false, false, false, false, false, false] rfl rfl (any_of HT_.out (by kernel_rfl)) (fun _ _ _ h => h) (Or.inl ⟨by rfl, ?_⟩) ?_ ?_
  rotate_left
  · intro w'
    go_simp
    try with_reducible rfl
  rotate_left
  · simp only [Act.put, List.setIfInBounds_toArray, List.set_cons_zero, List.set_cons_succ]
    rfl
  refine pure_ (i := 6) (N := some 9) (v := ?_) (a' := ?_) #[true, true, true, false, true, true, true, false, true, true, false, false, false, false, false, false] rfl rfl (any_of HT_.out (by kernel_rfl)) (fun _ _ _ h => h) (Or.inl ⟨by rfl, ?_⟩) ?_ ?_
  rotate_left
  · intro w'
    go_simp
    try with_reducible rfl
  rotate_left
  · simp only [Act.put, List.setIfInBounds_toArray, List.set_cons_zero, List.set_cons_succ]
    rfl
  refine pure_ (i := 10) (N := some 13) (v := ?_) (a' := ?_) #[true, true, true, false, true, true, true, false, true, true, true, false, false, false, false, false] rfl rfl (any_of HT_.out (by kernel_rfl)) (fun _ _ _ h => h) (Or.inl ⟨by rfl, ?_⟩) ?_ ?_
  rotate_left
  · intro w'
    go_simp
    try with_reducible rfl
  rotate_left
  · simp only [Act.put, List.setIfInBounds_toArray, List.set_cons_zero, List.set_cons_succ]
    rfl
  refine take_ (i := 3) (N := some 6) (v := .agg #[.int .i64 kind, .int .i64 cap, .int .i64 num, .int .i64 den, .int .i64 width, .int .i64 count, .int .i64 keys, .int .i64 slots, .int .i64 every, .int .i64 seg]) (a' := ?_) #[true, true, true, true, true, true, true, false, true, true, true, false, false, false, false, false] rfl rfl (take_ofW HT_.out HW_.out (by kernel_rfl)) (fun _ _ _ h => h) (yields_pre (by rfl) 23 _ rfl sb _ rfl (fun w' hS' => hS'.1 (sb, .cells #[.int .i64 kind, .int .i64 cap, .int .i64 num, .int .i64 den, .int .i64 width, .int .i64 count, .int .i64 keys, .int .i64 slots, .int .i64 every, .int .i64 seg, .int .i64 tick, .map (some mb)] 80 (0, 0)) (by simp)) rfl Try.underlying23 rfl infoPol) hHeld ?_ ?_
  rotate_left
  · simp only [Act.put, List.setIfInBounds_toArray, List.set_cons_zero, List.set_cons_succ]
    rfl
  refine take_ (i := 7) (N := some 10) (v := ?_) (a' := ?_) #[true, true, true, true, true, true, true, true, true, true, true, false, false, false, false, false] rfl rfl (take_ofW HT_.out HW_.out (by kernel_rfl)) (fun _ _ _ h => h) (Or.inl ⟨by rfl, ?_⟩) hHeld ?_ ?_
  rotate_left
  · intro w' hS'
    have hx := hS'.1 (sb, .cells #[.int .i64 kind, .int .i64 cap, .int .i64 num, .int .i64 den, .int .i64 width, .int .i64 count, .int .i64 keys, .int .i64 slots, .int .i64 every, .int .i64 seg, .int .i64 tick, .map (some mb)] 80 (0, 0)) (by simp)
    have c0 : w'.cell? ⟨sb, 10, none⟩ = some (.int .i64 tick) := by rw [cell_of_row w' _ 10 _ _ _ hx]; rfl
    go_simp
    try with_reducible rfl
  rotate_left
  · simp only [Act.put, List.setIfInBounds_toArray, List.set_cons_zero, List.set_cons_succ]
    rfl
  refine take_ (i := 11) (N := some 14) (v := ?_) (a' := ?_) #[true, true, true, true, true, true, true, true, true, true, true, true, false, false, false, false] rfl rfl (take_ofW HT_.out HW_.out (by kernel_rfl)) (fun _ _ _ h => h) (Or.inl ⟨by rfl, ?_⟩) hHeld ?_ ?_
  rotate_left
  · intro w' hS'
    have hx := hS'.1 (sb, .cells #[.int .i64 kind, .int .i64 cap, .int .i64 num, .int .i64 den, .int .i64 width, .int .i64 count, .int .i64 keys, .int .i64 slots, .int .i64 every, .int .i64 seg, .int .i64 tick, .map (some mb)] 80 (0, 0)) (by simp)
    have c0 : w'.cell? ⟨sb, 11, none⟩ = some (.map (some mb)) := by rw [cell_of_row w' _ 11 _ _ _ hx]; rfl
    go_simp
    try with_reducible rfl
  rotate_left
  · simp only [Act.put, List.setIfInBounds_toArray, List.set_cons_zero, List.set_cons_succ]
    rfl
  refine one_ (i := 12) (N := some 15) #[true, true, true, true, true, true, true, true, true, true, true, true, true, false, false, false] rfl rfl (one_of HT_.out (by kernel_rfl)) (by decide) (fun K hK => ?_)
  refine goes_ Try.func44 (by kernel_rfl) rfl #[.map (some mb)] (by rfl) rfl rfl (by simp [Act.eval]) ?_
  refine (HMC.out _ hHeld.2).mono ?_
  rintro e w2 ⟨rfl, hm, hb⟩
  refine ⟨_, rfl, ?_⟩
  simp only [Act.put, List.setIfInBounds_toArray, List.set_cons_zero, List.set_cons_succ]
  have HM := Aside0.mk (show MapL w2 w.heap.size rows ∧ Below w.heap.size w w2 from ⟨hm, hHeld.2.trans (hb.mono hHeld.2.size)⟩)
  clear hm
  refine hK.out _ _ (hHeld.step hb) (fun hHeld => ?_)
  clear hK K
  refine pure_ (i := 13) (N := some 16) (v := ?_) (a' := ?_) #[true, true, true, true, true, true, true, true, true, true, true, true, true, true, false, false] rfl rfl (any_of HT_.out (by kernel_rfl)) (fun _ _ _ h => h) (Or.inl ⟨by rfl, ?_⟩) ?_ ?_
  rotate_left
  · intro w'
    go_simp
    try with_reducible rfl
  rotate_left
  · simp only [Act.put, List.setIfInBounds_toArray, List.set_cons_zero, List.set_cons_succ]
    rfl
  refine one_ (i := 14) (N := some 17) #[true, true, true, true, true, true, true, true, true, true, true, true, true, true, true, false] rfl rfl (one_of HT_.out (by kernel_rfl)) (by decide) (fun K hK => ?_)
  rw [if_pos (by rfl)]
  go_simp
  have HL2 := Aside0.mk (HLM.out _ _ _ (heap_alloc_new w2 (.cells #[.int .i64 kind, .int .i64 cap, .int .i64 num, .int .i64 den, .int .i64 width, .int .i64 count, .int .i64 keys, .int .i64 slots, .int .i64 every, .int .i64 seg, .int .i64 tick, .map (some w.heap.size)] 80 (0, 0))) (HM.out.1.below ((Below.refl _ w2).alloc (Nat.le_refl _) _)))
  have HB2 := Aside0.mk (HM.out.2.trans (((Below.refl _ w2).alloc (Nat.le_refl _) (.cells #[.int .i64 kind, .int .i64 cap, .int .i64 num, .int .i64 den, .int .i64 width, .int .i64 count, .int .i64 keys, .int .i64 slots, .int .i64 every, .int .i64 seg, .int .i64 tick, .map (some w.heap.size)] 80 (0, 0))).mono HM.out.2.size))
  have HZ := Aside0.mk HM.out.2.size
  clear HM
  refine hK.out _ _ (hHeld.step ((Below.refl _ w2).alloc (Nat.le_refl _) _)) (fun hHeld => ?_)
  clear hK K
  refine pure_ (i := 15) (N := some 2) (v := ?_) (a' := ?_) #[true, true, true, true, true, true, true, true, true, true, true, true, true, true, true, true] rfl rfl (any_of HT_.out (by kernel_rfl)) (fun _ _ _ h => h) (Or.inl ⟨by rfl, ?_⟩) ?_ ?_
  rotate_left
  · intro w'
    go_simp
    try with_reducible rfl
  rotate_left
  · simp only [Act.put, List.setIfInBounds_toArray, List.set_cons_zero, List.set_cons_succ]
    rfl
  refine done_ (done_of HT_.out (by kernel_rfl)) ?_
  clear hHeld HT_ HW_
  go_wp2_with fail
  go_ret
  exact ⟨w2.heap.size, w.heap.size, rfl, HZ.out, Nat.le_refl _, HL2.out, HB2.out⟩

end Go.Proofs.Ytnodnpenlplleaa.Own
