/- Layer 9: what a key owes now, and what it may. -/
import Derived.Test.YtnodnpenlplleaaLedA
namespace Go.Proofs.Ytnodnpenlplleaa.Own
open Go.RowKit Go.Proofs.YtnodnpenlplleaaW.PrintWords Go.Proofs.YtnodnpenlplleaaW.PrintLast Go.Proofs.YtnodnpenlplleaaW.PrintMore
set_option linter.unusedVariables false
set_option linter.unusedSimpArgs false
attribute [local go_sem] Oper.semAt_some
def none__T3 : Bool × List (List Nat × List Nat) := (true, [([], []), ([0], [0]), ([1], [1]), ([2], [2]), ([], []), ([4], [4]), ([5], [5]), ([6], [6]), ([3, 7], [3, 7]), ([8], [8]), ([9], [9]), ([10, 8, 0, 1, 2, 3, 4, 5, 6, 7, 8, 9, 10], [10])])
def none__B3 : List Nat := [0, 1, 3, 7, 0, 16, 48, 112, 255, 511, 1023, 2047]
theorem none__tab3 : rtab .any (opsOf Try.f65 3) = none__T3 := by kernel_rfl
theorem none__bits3 : waitsOk none__T3.2 none__B3 = true := by kernel_rfl

set_option maxRecDepth 100000 in
set_option maxHeartbeats 600000 in
theorem none_fn (w : World) (sb mb : Nat) (p : Pol) (tick : Int) (rows : Rws) (h : Led w sb mb p tick rows) (hp : p.ok) (h0 : 0 ≤ tick) (h1 : tick ≤ 1099511627776) :
    Calls Try.prog 65 #[.pointer (some ⟨sb, 0, none⟩)] w fun e w' => ∃ v, e = .returned v ∧ DebtV w' v (noneD p tick) ∧ Below w.heap.size w w' := by
  have HB := Aside0.mk h.blk
  have HFR := Aside0.mk (fun w' hk => Fresh_fn p tick w' hp hk h0 h1)
  have hpi := Pol.is hp
  obtain ⟨kind, cap, num, den, width, count, keys, slots, every, seg⟩ := p
  simp only [Pol.val, Pol.cells, ledC] at HB HFR ⊢
  simp only at hpi
  have c0 : w.cell? ⟨sb, 0, none⟩ = some (.int .i64 kind) := by rw [cell_of_row w _ 0 _ _ _ HB.out]; rfl
  unfold noneD
  simp only
  clear h hp
  by_cases hk : kind = 1
  · subst hk
    rw [if_pos rfl]
    clear hpi
    go_enter Try.func65, Try.ntmps65
    go_wp2_with fail
    go_ret
    exact ⟨_, rfl, rfl, Below.refl _ _⟩
  · rw [if_neg hk]
    obtain rfl : kind = 2 := by omega
    clear hpi hk
    have HS0 := Aside0.mk (HeldB.one (x := (sb, .cells #[.int .i64 2, .int .i64 cap, .int .i64 num, .int .i64 den, .int .i64 width, .int .i64 count, .int .i64 keys, .int .i64 slots, .int .i64 every, .int .i64 seg, .int .i64 tick, .map (some mb)] 80 (0, 0))) HB.out (Below.refl _ w))
    go_enter Try.func65, Try.ntmps65
    go_wp2_with fail
    refine start_ (n := 12) (S := HeldB w [(sb, .cells #[.int .i64 2, .int .i64 cap, .int .i64 num, .int .i64 den, .int .i64 width, .int .i64 count, .int .i64 keys, .int .i64 slots, .int .i64 every, .int .i64 seg, .int .i64 tick, .map (some mb)] 80 (0, 0))]) (ds := []) #[false, false, false, false, false, false, false, false, false, false, false, false] (by kernel_rfl) rfl rfl (HS0.out.drew) (fun hHeld => ?_); refine with_tabW none__tab3 none__bits3 (fun HT_ HW_ => ?_)
    refine pure_ (i := 0) (N := some 10) (v := ?_) (a' := ?_) #[true, false, false, false, false, false, false, false, false, false, false, false] rfl rfl (any_of HT_.out (by kernel_rfl)) (fun _ _ _ h => h) (Or.inl ⟨by rfl, ?_⟩) ?_ ?_
    rotate_left
    · intro w'
      go_simp
      try with_reducible rfl
    rotate_left
    · simp only [Act.put, List.setIfInBounds_toArray, List.set_cons_zero, List.set_cons_succ]
      rfl
    refine pure_ (i := 4) (N := some 14) (v := ?_) (a' := ?_) #[true, false, false, false, true, false, false, false, false, false, false, false] rfl rfl (any_of HT_.out (by kernel_rfl)) (fun _ _ _ h => h) (Or.inl ⟨by rfl, ?_⟩) ?_ ?_
    rotate_left
    · intro w'
      go_simp
      try with_reducible rfl
    rotate_left
    · simp only [Act.put, List.setIfInBounds_toArray, List.set_cons_zero, List.set_cons_succ]
      rfl
    refine pure_ (i := 1) (N := some 11) (v := ?_) (a' := ?_) #[true, true, false, false, true, false, false, false, false, false, false, false] rfl rfl (any_of HT_.out (by kernel_rfl)) (fun _ _ _ h => h) (Or.inl ⟨by rfl, ?_⟩) ?_ ?_
    rotate_left
    · intro w'
      go_simp
      try with_reducible rfl
    rotate_left
    · simp only [Act.put, List.setIfInBounds_toArray, List.set_cons_zero, List.set_cons_succ]
      rfl
    refine pure_ (i := 5) (N := some 15) (v := ?_) (a' := ?_) #[true, true, false, false, true, true, false, false, false, false, false, false] rfl rfl (any_of HT_.out (by kernel_rfl)) (fun _ _ _ h => h) (Or.inl ⟨by rfl, ?_⟩) ?_ ?_
    rotate_left
    · intro w'
      go_simp
      try with_reducible rfl
    rotate_left
    · simp only [Act.put, List.setIfInBounds_toArray, List.set_cons_zero, List.set_cons_succ]
      rfl
    refine pure_ (i := 2) (N := some 12) (v := ?_) (a' := ?_) #[true, true, true, false, true, true, false, false, false, false, false, false] rfl rfl (any_of HT_.out (by kernel_rfl)) (fun _ _ _ h => h) (Or.inl ⟨by rfl, ?_⟩) ?_ ?_
    rotate_left
    · intro w'
      go_simp
      try with_reducible rfl
    rotate_left
    · simp only [Act.put, List.setIfInBounds_toArray, List.set_cons_zero, List.set_cons_succ]
      rfl
    refine pure_ (i := 6) (N := some 16) (v := ?_) (a' := ?_) #[true, true, true, false, true, true, true, false, false, false, false, false] rfl rfl (any_of HT_.out (by kernel_rfl)) (fun _ _ _ h => h) (Or.inl ⟨by rfl, ?_⟩) ?_ ?_
    rotate_left
    · intro w'
      go_simp
      try with_reducible rfl
    rotate_left
    · simp only [Act.put, List.setIfInBounds_toArray, List.set_cons_zero, List.set_cons_succ]
      rfl
    refine take_ (i := 3) (N := some 13) (v := .agg #[.int .i64 2, .int .i64 cap, .int .i64 num, .int .i64 den, .int .i64 width, .int .i64 count, .int .i64 keys, .int .i64 slots, .int .i64 every, .int .i64 seg]) (a' := ?_) #[true, true, true, true, true, true, true, false, false, false, false, false] rfl rfl (take_ofW HT_.out HW_.out (by kernel_rfl)) (fun _ _ _ h => h) (yields_pre (by rfl) 23 _ rfl sb _ rfl (fun w' hS' => hS'.1 (sb, .cells #[.int .i64 2, .int .i64 cap, .int .i64 num, .int .i64 den, .int .i64 width, .int .i64 count, .int .i64 keys, .int .i64 slots, .int .i64 every, .int .i64 seg, .int .i64 tick, .map (some mb)] 80 (0, 0)) (by simp)) rfl Try.underlying23 rfl infoPol) hHeld ?_ ?_
    rotate_left
    · simp only [Act.put, List.setIfInBounds_toArray, List.set_cons_zero, List.set_cons_succ]
      rfl
    refine take_ (i := 7) (N := some 17) (v := ?_) (a' := ?_) #[true, true, true, true, true, true, true, true, false, false, false, false] rfl rfl (take_ofW HT_.out HW_.out (by kernel_rfl)) (fun _ _ _ h => h) (Or.inl ⟨by rfl, ?_⟩) hHeld ?_ ?_
    rotate_left
    · intro w' hS'
      have hx := hS'.1 (sb, .cells #[.int .i64 2, .int .i64 cap, .int .i64 num, .int .i64 den, .int .i64 width, .int .i64 count, .int .i64 keys, .int .i64 slots, .int .i64 every, .int .i64 seg, .int .i64 tick, .map (some mb)] 80 (0, 0)) (by simp)
      have c0 : w'.cell? ⟨sb, 10, none⟩ = some (.int .i64 tick) := by rw [cell_of_row w' _ 10 _ _ _ hx]; rfl
      go_simp
      try with_reducible rfl
    rotate_left
    · simp only [Act.put, List.setIfInBounds_toArray, List.set_cons_zero, List.set_cons_succ]
      rfl
    refine one_ (i := 8) (N := some 18) #[true, true, true, true, true, true, true, true, true, false, false, false] rfl rfl (one_of HT_.out (by kernel_rfl)) (by decide) (fun K hK => ?_)
    refine goes_ Try.func81 (by kernel_rfl) rfl #[.agg #[.int .i64 2, .int .i64 cap, .int .i64 num, .int .i64 den, .int .i64 width, .int .i64 count, .int .i64 keys, .int .i64 slots, .int .i64 every, .int .i64 seg], .int .i64 tick] (by rfl) rfl rfl (by simp [Act.eval]) ?_
    refine (HFR.out _ trivial).mono ?_
    rintro e w2 ⟨v, rfl, hRv, hb⟩
    refine ⟨_, rfl, ?_⟩
    simp only [Act.put, List.setIfInBounds_toArray, List.set_cons_zero, List.set_cons_succ]
    obtain ⟨Av, cv, ev⟩ := Kd.R_slice hRv
    subst ev
    rw [List.length_replicate] at hRv ⊢
    have HRF := Aside0.mk (nums_of_R hRv)
    clear hRv
    refine hK.out _ _ (hHeld.step hb) (fun hHeld => ?_)
    clear hK K
    refine pure_ (i := 9) (N := some 19) (v := ?_) (a' := ?_) #[true, true, true, true, true, true, true, true, true, true, false, false] rfl rfl (any_of HT_.out (by kernel_rfl)) (fun _ _ _ h => h) (Or.inl ⟨by rfl, ?_⟩) ?_ ?_
    rotate_left
    · intro w'
      go_simp
      try with_reducible rfl
    rotate_left
    · simp only [Act.put, List.setIfInBounds_toArray, List.set_cons_zero, List.set_cons_succ]
      rfl
    refine pure_ (i := 10) (N := some 20) (v := ?_) (a' := ?_) #[true, true, true, true, true, true, true, true, true, true, true, false] rfl rfl (any_of HT_.out (by kernel_rfl)) (fun _ _ _ h => h) (Or.inl ⟨by rfl, ?_⟩) ?_ ?_
    rotate_left
    · intro w'
      go_simp
      try with_reducible rfl
    rotate_left
    · simp only [Act.put, List.setIfInBounds_toArray, List.set_cons_zero, List.set_cons_succ]
      rfl
    refine pure_ (i := 11) (N := some 2) (v := ?_) (a' := ?_) #[true, true, true, true, true, true, true, true, true, true, true, true] rfl rfl (any_of HT_.out (by kernel_rfl)) (fun _ _ _ h => h) (Or.inl ⟨by rfl, ?_⟩) ?_ ?_
    rotate_left
    · intro w'
      go_simp
      try with_reducible rfl
    rotate_left
    · simp only [Act.put, List.setIfInBounds_toArray, List.set_cons_zero, List.set_cons_succ]
      rfl
    refine done_ (done_of HT_.out (by kernel_rfl)) ?_
    have HB2 := Aside0.mk hHeld.2
    clear hHeld HT_ HW_
    go_wp2_with fail
    go_ret
    exact ⟨_, rfl, ⟨_, rfl, HRF.out⟩, HB2.out⟩

set_option maxRecDepth 100000 in
set_option maxHeartbeats 600000 in
theorem debt_fn (w : World) (sb mb : Nat) (p : Pol) (tick : Int) (rows : Rws) (key : ByteArray) (h : Led w sb mb p tick rows) (ho : OkR p tick rows) (hk : key.size ≤ maxLen) :
    Calls Try.prog 43 #[.pointer (some ⟨sb, 0, none⟩), .string key] w fun e w' => ∃ v, e = .returned v ∧ DebtV w' v ((lookR rows key).getD (noneD p tick)) ∧ Below w.heap.size w w' := by
  have c0 : w.cell? ⟨sb, 11, none⟩ = some (.map (some mb)) := by rw [cell_of_row w _ 11 _ _ _ h.blk]; rfl
  have HN := Aside0.mk (none_fn w sb mb p tick rows h ho.pol ho.tick0 ho.tick1)
  obtain ⟨v, hlook, hv⟩ := h.look hk
  clear h ho
  unfold Found at hv
  cases e : lookR rows key with
  | none =>
    simp only [e] at hv
    subst hv
    clear e
    go_enter Try.func43, Try.ntmps43
    go_wp2_with fail
    refine HN.out.mono ?_
    rintro e w1 ⟨v, rfl, hV, hb⟩
    have HV := Aside0.mk hV
    have HB := Aside0.mk hb
    clear hV hb HN hlook c0
    go_wp2_with fail
    go_ret
    exact ⟨_, rfl, HV.out, HB.out⟩
  | some d =>
    simp only [e] at hv
    clear e HN
    have HV := Aside0.mk hv
    cases d with
    | lev n =>
      cases hv
      go_enter Try.func43, Try.ntmps43
      go_wp2_with fail
      go_ret
      exact ⟨_, rfl, HV.out, Below.refl _ _⟩
    | win g l =>
      obtain ⟨s, rfl, _⟩ := hv
      go_enter Try.func43, Try.ntmps43
      go_wp2_with fail
      go_ret
      exact ⟨_, rfl, HV.out, Below.refl _ _⟩
end Go.Proofs.Ytnodnpenlplleaa.Own
