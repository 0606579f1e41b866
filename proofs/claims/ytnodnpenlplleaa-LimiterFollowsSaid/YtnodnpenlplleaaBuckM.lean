/- Layer 7, the bucket, where the policy may be: what Decay, May and Take answer. -/
import Derived.Test.YtnodnpenlplleaaRight
import Derived.Test.YtnodnpenlplleaaWMore
import Derived.Deep.QuietTactic
import Derived.BigQuiet
import Derived.Deep.RegionHeld3
import Derived.Test.YtnodnpenlplleaaHeld
namespace Go.Proofs.Ytnodnpenlplleaa.Own
open Go.RowKit Go.Proofs.YtnodnpenlplleaaW.PrintWords Go.Proofs.YtnodnpenlplleaaW.PrintLast Go.Proofs.YtnodnpenlplleaaW.PrintMore
set_option linter.unusedVariables false
set_option linter.unusedSimpArgs false

attribute [local go_sem] max2_int min2_int max_two min_two
/-- A policy. -/
structure Pol where
  kind : Int
  cap : Int
  num : Int
  den : Int
  width : Int
  count : Int
  keys : Int
  slots : Int
  every : Int
  seg : Int
deriving DecidableEq
def Pol.cells (p : Pol) : Array Value := #[.int .i64 p.kind, .int .i64 p.cap, .int .i64 p.num, .int .i64 p.den, .int .i64 p.width, .int .i64 p.count, .int .i64 p.keys, .int .i64 p.slots, .int .i64 p.every, .int .i64 p.seg]
abbrev Pol.val (p : Pol) : Value := .agg p.cells
def Pol.E (p : Pol) : Int := polE p.kind p.cap p.num p.den p.width p.count p.keys p.slots p.every p.seg
def Pol.ok (p : Pol) : Prop := p.E = 0
theorem Pol.right (p : Pol) (w : World) : Calls Try.prog 38 #[p.val] w fun e w' => e = .returned (.int .i64 p.E) ∧ Below w.heap.size w w' := right_any _ _ _ _ _ _ _ _ _ _ _
theorem infoPol : (Try.prog.info? 23).map (·.size) = some 10 := by kernel_rfl
set_option maxRecDepth 10000 in
theorem Pol.is {p : Pol} (h : p.ok) : (p.kind = 1 ∧ 1 ≤ p.num ∧ p.num ≤ 65536 ∧ 1 ≤ p.den ∧ p.den ≤ 65536 ∨ p.kind = 2 ∧ 1 ≤ p.width ∧ p.width ≤ 1048576 ∧ 1 ≤ p.count ∧ p.count ≤ 32) ∧ 1 ≤ p.cap ∧ p.cap ≤ 1048576 ∧ 1 ≤ p.keys ∧ p.keys ≤ 1000 := by
  have h1 : polB p.kind p.cap p.num p.den p.width p.count p.keys p.slots p.every p.seg = true := by
    by_cases hb : polB p.kind p.cap p.num p.den p.width p.count p.keys p.slots p.every p.seg = true
    · exact hb
    · have := polE_bad hb
      unfold Pol.ok Pol.E at h
      omega
  simp only [polB, decide_eq_true_eq] at h1
  omega

set_option maxRecDepth 100000 in
set_option maxHeartbeats 600000 in
theorem bmeans_fn (p : Pol) (w : World) (hp : p.ok) (hk : p.kind = 1) :
    Calls Try.prog 132 #[p.val] w fun e w' => e = .returned (.bool true) ∧ Below w.heap.size w w' := by
  have hpr := p.right
  rw [show p.E = 0 from hp] at hpr
  clear hp
  obtain ⟨kind, cap, num, den, width, count, keys, slots, every, seg⟩ := p
  simp only at hk
  subst hk
  simp only [Pol.val, Pol.cells] at hpr ⊢
  have hg := heap_alloc_new w (.cells #[.int .i64 1, .int .i64 cap, .int .i64 num, .int .i64 den, .int .i64 width, .int .i64 count, .int .i64 keys, .int .i64 slots, .int .i64 every, .int .i64 seg] 23 (0, 0))
  have HG := Aside0.mk hg
  have HPR := Aside0.mk hpr
  clear hg hpr
  go_enter Try.func132, Try.ntmps132
  go_wp2_with (first | ((with_reducible refine gload 23 rfl ?_); (try (refine gate_guard (by rfl) ?_; dsimp only)); refine wpList_load_blk rfl 23 _ rfl w.heap.size _ 23 _ rfl HG.out _ Try.underlying23 rfl infoPol ?_) | fail)
  refine (HPR.out _).mono ?_
  rintro e w1 ⟨rfl, hb1⟩
  have HB1 := Aside0.mk (((Below.refl _ w).alloc (Nat.le_refl _) _).trans (hb1.mono (by simp)))
  clear hb1 HG HPR
  go_wp2_with fail
  go_ret
  exact ⟨rfl, HB1.out⟩

theorem clip_fn (most : Int) (w : World) :
    Calls Try.prog 133 #[.int .i64 most] w fun e w' => e = .returned (.func (.func 135) #[] #[.pointer (some ⟨w.heap.size, 0, none⟩)]) ∧ Below w.heap.size w w' ∧ w'.heap[w.heap.size]? = some (.cells #[.int .i64 most] 3 (0, 0)) := by
  have hg := heap_alloc_new w (.cells #[.int .i64 most] 3 (0, 0))
  have hb : Below w.heap.size w (w.alloc (.cells #[.int .i64 most] 3 (0, 0))) := (Below.refl _ w).alloc (Nat.le_refl _) _
  have HG := Aside0.mk hg
  have HB := Aside0.mk hb
  clear hg hb
  go_enter Try.func133, Try.ntmps133
  go_wp2_with fail
  go_ret
  exact ⟨rfl, HB.out, HG.out⟩
theorem clip1_fn (n most : Int) (b : Nat) (w : World) (h : w.cell? ⟨b, 0, none⟩ = some (.int .i64 most)) :
    Calls Try.prog 135 #[.int .i64 n, .pointer (some ⟨b, 0, none⟩)] w fun e w' => e = .returned (.int .i64 (mn (mx n 0) most)) ∧ w' = w := by
  go_enter Try.func135, Try.ntmps135
  go_wp2_with fail
  all_goals
    go_ret
    refine ⟨congrArg (fun r => Ending.returned (Value.int .i64 r)) ?_, rfl⟩
    unfold mn mx
    (repeat' split) <;> omega
theorem bmay_fn (cost : Int) (w : World) :
    Calls Try.prog 134 #[.int .i64 cost] w fun e w' => e = .returned (.bool (decide (1 ≤ cost ∧ cost ≤ 1048576))) ∧ w' = w := by
  go_enter Try.func134, Try.ntmps134
  by_cases h1 : 1 ≤ cost
  · go_wp2_with fail
    go_ret
    simp [h1]
  · go_wp2_with fail
    go_ret
    simp [h1]
    omega

theorem clip_eq (n most : Int) (b : Nat) (w : World) (r : Int) (h : w.cell? ⟨b, 0, none⟩ = some (.int .i64 most)) (hr : mn (mx n 0) most = r) :
    Calls Try.prog 135 #[.int .i64 n, .pointer (some ⟨b, 0, none⟩)] w fun e w' => e = .returned (.int .i64 r) ∧ w' = w := by
  have := clip1_fn n most b w h
  rwa [hr] at this

set_option maxRecDepth 100000 in
set_option maxHeartbeats 600000 in
theorem decay_fn (p : Pol) (owed ticks : Int) (w : World) (hp : p.ok) (hk : p.kind = 1) (h0 : 0 ≤ owed) (h1 : owed ≤ 4611686018427387903) (t0 : 0 ≤ ticks) (t1 : ticks ≤ 1099511627776) :
    Calls Try.prog 129 #[p.val, .int .i64 owed, .int .i64 ticks] w fun e w' => e = .returned (.int .i64 (mx (owed - ticks * p.num) 0)) ∧ Below w.heap.size w w' := by
  have HM := Aside0.mk (fun w' => bmeans_fn p w' hp hk)
  have hpi := Pol.is hp
  obtain ⟨kind, cap, num, den, width, count, keys, slots, every, seg⟩ := p
  simp only at hk hpi
  subst hk
  simp only [Pol.val, Pol.cells] at HM ⊢
  have hn0 : 1 ≤ num := by omega
  have hn1 : num ≤ 65536 := by omega
  have e1 : mn (mx owed 0) 4611686018427387903 = owed := by unfold mn mx; omega
  have e2 : mn (mx ticks 0) 1099511627776 = ticks := by unfold mn mx; omega
  have b0 : 0 ≤ ticks * num := Int.mul_nonneg t0 (by omega)
  have b1 : ticks * num ≤ 1099511627776 * 65536 := Int.mul_le_mul t1 hn1 (by omega) (by omega)
  have e3 : mn (mx (owed - ticks * num) 0) 4611686018427387903 = mx (owed - ticks * num) 0 := by unfold mn mx; omega
  have x1 : IntKind.i64.wrap (ticks * num) = ticks * num := IntWalk.i64_in _ (by omega)
  have x2 : IntKind.i64.wrap (owed - ticks * num) = owed - ticks * num := IntWalk.i64_in _ (by omega)
  have hg := heap_alloc_new w (.cells #[.int .i64 1, .int .i64 cap, .int .i64 num, .int .i64 den, .int .i64 width, .int .i64 count, .int .i64 keys, .int .i64 slots, .int .i64 every, .int .i64 seg] 23 (0, 0))
  have hb : Below w.heap.size w (w.alloc (.cells #[.int .i64 1, .int .i64 cap, .int .i64 num, .int .i64 den, .int .i64 width, .int .i64 count, .int .i64 keys, .int .i64 slots, .int .i64 every, .int .i64 seg] 23 (0, 0))) := (Below.refl _ w).alloc (Nat.le_refl _) _
  have HE := Aside0.mk (And.intro e1 (And.intro e2 e3))
  have HX := Aside0.mk (And.intro x1 x2)
  have HG := Aside0.mk hg
  have HB := Aside0.mk hb
  clear e1 e2 e3 x1 x2 hg hb hpi hp b0 b1 hn0 hn1
  go_enter Try.func129, Try.ntmps129
  go_wp2_with (first | ((with_reducible refine gload 23 rfl ?_); refine wpList_load_blk rfl 23 _ rfl w.heap.size _ 23 _ rfl HG.out _ Try.underlying23 rfl infoPol ?_) | fail)
  refine (HM.out _).mono ?_
  rintro e w1 ⟨rfl, hb1⟩
  have HG1 := Aside0.mk ((hb1.block _ (by simp)).trans HG.out)
  have HB1 := Aside0.mk (HB.out.trans (hb1.mono (by simp)))
  have hs1 : w.heap.size < w1.heap.size := by have := hb1.size; simp at this; omega
  clear hb1 HM
  go_wp2_with fail
  refine (clip_fn _ _).mono ?_
  rintro e w2 ⟨rfl, hb2, hx2⟩
  have hs2 : w1.heap.size < w2.heap.size := (Array.getElem?_eq_some_iff.1 hx2).1
  have HG2 := Aside0.mk ((hb2.block _ hs1).trans HG1.out)
  have HB2 := Aside0.mk (HB1.out.trans (hb2.mono HB1.out.size))
  have HX2 := Aside0.mk hx2
  clear hb2 hx2
  go_wp2_with fail
  refine (clip_fn _ _).mono ?_
  rintro e w3 ⟨rfl, hb3, hx3⟩
  have g3 := (hb3.block _ (by omega)).trans HG2.out
  have HB3 := Aside0.mk (HB2.out.trans (hb3.mono HB2.out.size))
  have c0 : w3.cell? ⟨w1.heap.size, 0, none⟩ = some (.int .i64 4611686018427387903) := by rw [cell_of_row w3 _ 0 _ _ _ ((hb3.block _ hs2).trans HX2.out)]; rfl
  have c1 : w3.cell? ⟨w2.heap.size, 0, none⟩ = some (.int .i64 1099511627776) := by rw [cell_of_row w3 _ 0 _ _ _ hx3]; rfl
  have c2 : w3.cell? ⟨w.heap.size, 2, none⟩ = some (.int .i64 num) := by rw [cell_of_row w3 _ 2 _ _ _ g3]; rfl
  clear hb3 hx3 g3
  go_wp2_with fail
  obtain ⟨x1, x2⟩ := HX.out
  go_quiet (first
    | (go_at_call_of 135 (Value.int IntKind.i64 owed); exact Calls.quiet_of_same (clip_eq owed _ _ _ owed (by simpa using c0) HE.out.1))
    | (go_at_call_of 135 (Value.int IntKind.i64 ticks); exact Calls.quiet_of_same (clip_eq ticks _ _ _ ticks (by simpa using c1) HE.out.2.1))
    | (exact Calls.quiet_of_same (clip_eq _ _ _ _ _ (by simpa using c0) HE.out.2.2)))
  go_wp2_with fail
  go_ret
  exact ⟨rfl, pw_below_drewN HB3.out _⟩

set_option maxRecDepth 100000 in
set_option maxHeartbeats 600000 in
theorem take_fn (p : Pol) (owed cost : Int) (w : World) (hp : p.ok) (hk : p.kind = 1) (h0 : 0 ≤ owed) (h1 : owed ≤ 4611686018427387903) (t0 : 1 ≤ cost) (t1 : cost ≤ 1048576) :
    Calls Try.prog 131 #[p.val, .int .i64 owed, .int .i64 cost] w fun e w' => e = .returned (.int .i64 (mn (owed + cost * p.den) 4611686018427387903)) ∧ Below w.heap.size w w' := by
  have HM := Aside0.mk (fun w' => bmeans_fn p w' hp hk)
  have hpi := Pol.is hp
  obtain ⟨kind, cap, num, den, width, count, keys, slots, every, seg⟩ := p
  simp only at hk hpi
  subst hk
  simp only [Pol.val, Pol.cells] at HM ⊢
  have hn0 : 1 ≤ den := by omega
  have hn1 : den ≤ 65536 := by omega
  have e1 : mn (mx owed 0) 4611686018427387903 = owed := by unfold mn mx; omega
  have b0 : 0 ≤ cost * den := Int.mul_nonneg (by omega) (by omega)
  have b1 : cost * den ≤ 1048576 * 65536 := Int.mul_le_mul t1 hn1 (by omega) (by omega)
  have e3 : mn (mx (owed + cost * den) 0) 4611686018427387903 = mn (owed + cost * den) 4611686018427387903 := by unfold mn mx; omega
  have x1 : IntKind.i64.wrap (cost * den) = cost * den := IntWalk.i64_in _ (by omega)
  have x2 : IntKind.i64.wrap (owed + cost * den) = owed + cost * den := IntWalk.i64_in _ (by omega)
  have HD := Aside0.mk (show decide (1 ≤ cost ∧ cost ≤ 1048576) = true from decide_eq_true ⟨t0, t1⟩)
  have hg := heap_alloc_new w (.cells #[.int .i64 1, .int .i64 cap, .int .i64 num, .int .i64 den, .int .i64 width, .int .i64 count, .int .i64 keys, .int .i64 slots, .int .i64 every, .int .i64 seg] 23 (0, 0))
  have hb : Below w.heap.size w (w.alloc (.cells #[.int .i64 1, .int .i64 cap, .int .i64 num, .int .i64 den, .int .i64 width, .int .i64 count, .int .i64 keys, .int .i64 slots, .int .i64 every, .int .i64 seg] 23 (0, 0))) := (Below.refl _ w).alloc (Nat.le_refl _) _
  have HE := Aside0.mk (And.intro e1 e3)
  have HX := Aside0.mk (And.intro x1 x2)
  have HG := Aside0.mk hg
  have HB := Aside0.mk hb
  clear e1 e3 x1 x2 hg hb hpi hp b0 b1 hn0 hn1
  go_enter Try.func131, Try.ntmps131
  go_wp2_with fail
  refine (clip_fn _ _).mono ?_
  rintro e w1 ⟨rfl, hb1, hx1⟩
  have HG1 := Aside0.mk ((hb1.block _ (by simp)).trans HG.out)
  have HB1 := Aside0.mk (HB.out.trans (hb1.mono (by simp)))
  have hs1 : w.heap.size < w1.heap.size := by have := hb1.size; simp at this; omega
  obtain ⟨bc, hbc⟩ : ∃ bc, (w.alloc (.cells #[.int .i64 1, .int .i64 cap, .int .i64 num, .int .i64 den, .int .i64 width, .int .i64 count, .int .i64 keys, .int .i64 slots, .int .i64 every, .int .i64 seg] 23 (0, 0))).heap.size = bc := ⟨_, rfl⟩
  rw [hbc] at hx1 ⊢
  have hsc : bc < w1.heap.size := (Array.getElem?_eq_some_iff.1 hx1).1
  have HX1 := Aside0.mk hx1
  clear hb1 hx1 HB HG hbc
  go_wp2_with (first | ((with_reducible refine gload 23 rfl ?_); refine wpList_load_blk rfl 23 _ rfl w.heap.size _ 23 _ rfl HG1.out _ Try.underlying23 rfl infoPol ?_) | fail)
  refine (HM.out _).mono ?_
  rintro e w2 ⟨rfl, hb2⟩
  have HG2 := Aside0.mk ((hb2.block _ hs1).trans HG1.out)
  have HX2 := Aside0.mk ((hb2.block _ hsc).trans HX1.out)
  have HB2 := Aside0.mk (HB1.out.trans (hb2.mono HB1.out.size))
  clear hb2 HM
  go_wp2_with fail
  refine (bmay_fn cost _).mono ?_
  rintro e w3 ⟨rfl, hw3⟩
  rw [HD.out, hw3]
  clear hw3 w3
  have c0 : w2.cell? ⟨bc, 0, none⟩ = some (.int .i64 4611686018427387903) := by rw [cell_of_row w2 _ 0 _ _ _ HX2.out]; rfl
  have c2 : w2.cell? ⟨w.heap.size, 3, none⟩ = some (.int .i64 den) := by rw [cell_of_row w2 _ 3 _ _ _ HG2.out]; rfl
  go_wp2_with fail
  obtain ⟨x1, x2⟩ := HX.out
  go_quiet (first
    | (go_at_call_of 135 (Value.int IntKind.i64 owed); exact Calls.quiet_of_same (clip_eq owed _ _ _ owed (by simpa using c0) HE.out.1))
    | (exact Calls.quiet_of_same (clip_eq _ _ _ _ _ (by simpa using c0) HE.out.2)))
  go_wp2_with fail
  go_ret
  exact ⟨rfl, pw_below_drewN HB2.out _⟩
end Go.Proofs.Ytnodnpenlplleaa.Own
/- bucket.May: may a cost be taken where that is owed? -/
namespace Go.Proofs.Ytnodnpenlplleaa.Own
open Go.RowKit Go.Proofs.YtnodnpenlplleaaW.PrintWords Go.Proofs.YtnodnpenlplleaaW.PrintLast Go.Proofs.YtnodnpenlplleaaW.PrintMore
set_option linter.unusedVariables false
set_option linter.unusedSimpArgs false
attribute [local go_sem] Oper.semAt_some
def bmay__T1 : Bool × List (List Nat × List Nat) := (true, [([], []), ([0], [0]), ([1, 1], [1]), ([2], [2]), ([3, 2, 2], [2, 3]), ([2, 4], [2, 4]), ([5, 4], [5]), ([6, 6], [6]), ([6], [6]), ([7, 8, 7, 6], [6, 7, 8]), ([6], [6]), ([6], [6]), ([11, 6], [6, 11]), ([10, 12, 6], [6, 10, 12]), ([9, 13, 6], [6, 9, 13]), ([6], [6]), ([15, 6], [6, 15]), ([6], [6]), ([17, 6], [6, 17]), ([16, 18, 6], [6, 16, 18]), ([14, 19, 6], [6, 14, 19]), ([6, 20], [6, 20]), ([21, 9, 0, 1, 2, 3, 4, 5, 6, 7, 8, 9, 10, 11, 12, 13, 14, 15, 16, 17, 18, 19, 20, 21], [21])])
def bmay__B1 : List Nat := [0, 1, 3, 7, 15, 31, 63, 127, 127, 511, 127, 127, 2175, 7295, 16383, 127, 32895, 127, 131199, 491647, 1048575, 2097151, 4194303]
theorem bmay__tab1 : rtab .any (opsOf Try.f130 1) = bmay__T1 := by kernel_rfl
theorem bmay__bits1 : waitsOk bmay__T1.2 bmay__B1 = true := by kernel_rfl

set_option maxRecDepth 100000 in
set_option maxHeartbeats 1000000 in
theorem bmayP_fn (p : Pol) (owed cost : Int) (w : World) (hp : p.ok) (hk : p.kind = 1) (h0 : 0 ≤ owed) (h1 : owed ≤ 4611686018427387903) :
    Calls Try.prog 130 #[p.val, .int .i64 owed, .int .i64 cost] w fun e w' => e = .returned (.bool (decide ((1 ≤ cost ∧ cost ≤ 1048576) ∧ owed + cost * p.den ≤ p.cap * p.den))) ∧ Below w.heap.size w w' := by
  have HM := Aside0.mk (fun w' => bmeans_fn p w' hp hk)
  have hpi := Pol.is hp
  obtain ⟨kind, cap, num, den, width, count, keys, slots, every, seg⟩ := p
  simp only at hk hpi
  subst hk
  simp only [Pol.val, Pol.cells] at HM ⊢
  have hd0 : 1 ≤ den := by omega
  have hd1 : den ≤ 65536 := by omega
  have hc0 : 1 ≤ cap := by omega
  have hc1 : cap ≤ 1048576 := by omega
  have HE := Aside0.mk (show mn (mx owed 0) 4611686018427387903 = owed from by unfold mn mx; omega)
  have HS0 := Aside0.mk (HeldB.one (x := (w.heap.size, .cells #[.int .i64 1, .int .i64 cap, .int .i64 num, .int .i64 den, .int .i64 width, .int .i64 count, .int .i64 keys, .int .i64 slots, .int .i64 every, .int .i64 seg] 23 (0, 0))) (heap_alloc_new w _) ((Below.refl _ w).alloc (Nat.le_refl _) _))
  by_cases hd : 1 ≤ cost ∧ cost ≤ 1048576
  · have HD := Aside0.mk (decide_eq_true hd)
    have b0 : 0 ≤ cost * den := Int.mul_nonneg (by omega) (by omega)
    have b1 : cost * den ≤ 1048576 * 65536 := Int.mul_le_mul hd.2 hd1 (by omega) (by omega)
    have b2 : 0 ≤ cap * den := Int.mul_nonneg (by omega) (by omega)
    have b3 : cap * den ≤ 1048576 * 65536 := Int.mul_le_mul hc1 hd1 (by omega) (by omega)
    have x1 : IntKind.i64.wrap (cost * den) = cost * den := IntWalk.i64_in _ (by omega)
    have x2 : IntKind.i64.wrap (cap * den) = cap * den := IntWalk.i64_in _ (by omega)
    have x3 : IntKind.i64.wrap (owed + cost * den) = owed + cost * den := IntWalk.i64_in _ (by omega)
    have hres : decide ((1 ≤ cost ∧ cost ≤ 1048576) ∧ owed + cost * den ≤ cap * den) = decide (owed + cost * den ≤ cap * den) := by simp [hd]
    simp only [hres]
    clear hpi hp b0 b1 b2 b3 hres
    go_enter Try.func130, Try.ntmps130
    go_wp2_with fail
    refine start_ (n := 23) (S := HeldB w [(w.heap.size, .cells #[.int .i64 1, .int .i64 cap, .int .i64 num, .int .i64 den, .int .i64 width, .int .i64 count, .int .i64 keys, .int .i64 slots, .int .i64 every, .int .i64 seg] 23 (0, 0))]) (ds := []) #[false, false, false, false, false, false, false, false, false, false, false, false, false, false, false, false, false, false, false, false, false, false, false] (by kernel_rfl) rfl rfl (HS0.out.drew) (fun hHeld => ?_); refine with_tabW bmay__tab1 bmay__bits1 (fun HT_ HW_ => ?_)
    refine take_ (i := 0) (N := some 7) (v := .agg #[.int .i64 1, .int .i64 cap, .int .i64 num, .int .i64 den, .int .i64 width, .int .i64 count, .int .i64 keys, .int .i64 slots, .int .i64 every, .int .i64 seg]) (a' := ?_) #[true, false, false, false, false, false, false, false, false, false, false, false, false, false, false, false, false, false, false, false, false, false, false] rfl rfl (take_ofW HT_.out HW_.out (by kernel_rfl)) (fun _ _ _ h => h) (yields_blk (by rfl) 23 _ rfl w.heap.size rfl (fun w' hS' => hS'.1 (w.heap.size, .cells #[.int .i64 1, .int .i64 cap, .int .i64 num, .int .i64 den, .int .i64 width, .int .i64 count, .int .i64 keys, .int .i64 slots, .int .i64 every, .int .i64 seg] 23 (0, 0)) (by simp)) Try.underlying23 rfl infoPol) hHeld ?_ ?_
    rotate_left
    · simp only [Act.put, List.setIfInBounds_toArray, List.set_cons_zero, List.set_cons_succ]
      rfl
    refine one_ (i := 1) (N := some 8) #[true, true, false, false, false, false, false, false, false, false, false, false, false, false, false, false, false, false, false, false, false, false, false] rfl rfl (one_of HT_.out (by kernel_rfl)) (by decide) (fun K hK => ?_)
    refine goes_ Try.func132 (by kernel_rfl) rfl #[.agg #[.int .i64 1, .int .i64 cap, .int .i64 num, .int .i64 den, .int .i64 width, .int .i64 count, .int .i64 keys, .int .i64 slots, .int .i64 every, .int .i64 seg]] (by rfl) rfl rfl (by simp [Act.eval]) ?_
    refine (HM.out _).mono ?_
    rintro e w1 ⟨rfl, hb⟩
    refine ⟨_, rfl, ?_⟩
    simp only [Act.put, List.setIfInBounds_toArray, List.set_cons_zero, List.set_cons_succ]
    refine hK.out _ _ (hHeld.step hb) (fun hHeld => ?_)
    clear hK K
    refine pure_ (i := 2) (N := some 9) (v := ?_) (a' := ?_) #[true, true, true, false, false, false, false, false, false, false, false, false, false, false, false, false, false, false, false, false, false, false, false] rfl rfl (any_of HT_.out (by kernel_rfl)) (fun _ _ _ h => h) (Or.inl ⟨by rfl, ?_⟩) ?_ ?_
    rotate_left
    · intro w'
      go_simp
      try with_reducible rfl
    rotate_left
    · simp only [Act.put, List.setIfInBounds_toArray, List.set_cons_zero, List.set_cons_succ]
      rfl
    refine pure_ (i := 3) (N := some 10) (v := ?_) (a' := ?_) #[true, true, true, true, false, false, false, false, false, false, false, false, false, false, false, false, false, false, false, false, false, false, false] rfl rfl (any_of HT_.out (by kernel_rfl)) (fun _ _ _ h => h) (Or.inl ⟨by rfl, ?_⟩) ?_ ?_
    rotate_left
    · intro w'
      go_simp
      try with_reducible rfl
    rotate_left
    · simp only [Act.put, List.setIfInBounds_toArray, List.set_cons_zero, List.set_cons_succ]
      rfl
    refine one_ (i := 4) (N := some 11) #[true, true, true, true, true, false, false, false, false, false, false, false, false, false, false, false, false, false, false, false, false, false, false] rfl rfl (one_of HT_.out (by kernel_rfl)) (by decide) (fun K hK => ?_)
    refine goes_ Try.func134 (by kernel_rfl) rfl #[.int .i64 cost] (by rfl) rfl rfl (by simp [Act.eval]) ?_
    refine (bmay_fn cost _).mono ?_
    rintro e w2 ⟨rfl, hw2⟩
    refine ⟨_, rfl, ?_⟩
    simp only [Act.put, List.setIfInBounds_toArray, List.set_cons_zero, List.set_cons_succ]
    rw [HD.out, hw2]
    clear hw2 w2
    refine hK.out _ _ (hHeld) (fun hHeld => ?_)
    clear hK K
    refine pure_ (i := 5) (N := some 12) (v := ?_) (a' := ?_) #[true, true, true, true, true, true, false, false, false, false, false, false, false, false, false, false, false, false, false, false, false, false, false] rfl rfl (any_of HT_.out (by kernel_rfl)) (fun _ _ _ h => h) (Or.inl ⟨by rfl, ?_⟩) ?_ ?_
    rotate_left
    · intro w'
      go_simp
      try with_reducible rfl
    rotate_left
    · simp only [Act.put, List.setIfInBounds_toArray, List.set_cons_zero, List.set_cons_succ]
      rfl
    refine pure_ (i := 6) (N := some 13) (v := ?_) (a' := ?_) #[true, true, true, true, true, true, true, false, false, false, false, false, false, false, false, false, false, false, false, false, false, false, false] rfl rfl (any_of HT_.out (by kernel_rfl)) (fun _ _ _ h => h) (Or.inl ⟨by rfl, ?_⟩) ?_ ?_
    rotate_left
    · intro w'
      go_simp
      try with_reducible rfl
    rotate_left
    · simp only [Act.put, List.setIfInBounds_toArray, List.set_cons_zero, List.set_cons_succ]
      rfl
    refine pure_ (i := 8) (N := some 15) (v := ?_) (a' := ?_) #[true, true, true, true, true, true, true, false, true, false, false, false, false, false, false, false, false, false, false, false, false, false, false] rfl rfl (any_of HT_.out (by kernel_rfl)) (fun _ _ _ h => h) (Or.inl ⟨by rfl, ?_⟩) ?_ ?_
    rotate_left
    · intro w'
      go_simp
      try with_reducible rfl
    rotate_left
    · simp only [Act.put, List.setIfInBounds_toArray, List.set_cons_zero, List.set_cons_succ]
      rfl
    refine pure_ (i := 10) (N := some 17) (v := ?_) (a' := ?_) #[true, true, true, true, true, true, true, false, true, false, true, false, false, false, false, false, false, false, false, false, false, false, false] rfl rfl (any_of HT_.out (by kernel_rfl)) (fun _ _ _ h => h) (Or.inl ⟨by rfl, ?_⟩) ?_ ?_
    rotate_left
    · intro w'
      go_simp
      try with_reducible rfl
    rotate_left
    · simp only [Act.put, List.setIfInBounds_toArray, List.set_cons_zero, List.set_cons_succ]
      rfl
    refine pure_ (i := 11) (N := some 18) (v := ?_) (a' := ?_) #[true, true, true, true, true, true, true, false, true, false, true, true, false, false, false, false, false, false, false, false, false, false, false] rfl rfl (any_of HT_.out (by kernel_rfl)) (fun _ _ _ h => h) (Or.inl ⟨by rfl, ?_⟩) ?_ ?_
    rotate_left
    · intro w'
      go_simp
      try with_reducible rfl
    rotate_left
    · simp only [Act.put, List.setIfInBounds_toArray, List.set_cons_zero, List.set_cons_succ]
      rfl
    refine pure_ (i := 15) (N := some 22) (v := ?_) (a' := ?_) #[true, true, true, true, true, true, true, false, true, false, true, true, false, false, false, true, false, false, false, false, false, false, false] rfl rfl (any_of HT_.out (by kernel_rfl)) (fun _ _ _ h => h) (Or.inl ⟨by rfl, ?_⟩) ?_ ?_
    rotate_left
    · intro w'
      go_simp
      try with_reducible rfl
    rotate_left
    · simp only [Act.put, List.setIfInBounds_toArray, List.set_cons_zero, List.set_cons_succ]
      rfl
    refine pure_ (i := 17) (N := some 24) (v := ?_) (a' := ?_) #[true, true, true, true, true, true, true, false, true, false, true, true, false, false, false, true, false, true, false, false, false, false, false] rfl rfl (any_of HT_.out (by kernel_rfl)) (fun _ _ _ h => h) (Or.inl ⟨by rfl, ?_⟩) ?_ ?_
    rotate_left
    · intro w'
      go_simp
      try with_reducible rfl
    rotate_left
    · simp only [Act.put, List.setIfInBounds_toArray, List.set_cons_zero, List.set_cons_succ]
      rfl
    refine take_ (i := 12) (N := some 19) (v := ?_) (a' := ?_) #[true, true, true, true, true, true, true, false, true, false, true, true, true, false, false, true, false, true, false, false, false, false, false] rfl rfl (take_ofW HT_.out HW_.out (by kernel_rfl)) (fun _ _ _ h => h) (Or.inl ⟨by rfl, ?_⟩) hHeld ?_ ?_
    rotate_left
    · intro w' hS'
      have hx := hS'.1 (w.heap.size, .cells #[.int .i64 1, .int .i64 cap, .int .i64 num, .int .i64 den, .int .i64 width, .int .i64 count, .int .i64 keys, .int .i64 slots, .int .i64 every, .int .i64 seg] 23 (0, 0)) (by simp)
      have c0 : w'.cell? ⟨w.heap.size, 3, none⟩ = some (.int .i64 den) := by rw [cell_of_row w' _ 3 _ _ _ hx]; rfl
      go_simp
      try with_reducible rfl
    rotate_left
    · simp only [Act.put, List.setIfInBounds_toArray, List.set_cons_zero, List.set_cons_succ]
      rfl
    refine pure_ (i := 13) (N := some 20) (v := ?_) (a' := ?_) #[true, true, true, true, true, true, true, false, true, false, true, true, true, true, false, true, false, true, false, false, false, false, false] rfl rfl (any_of HT_.out (by kernel_rfl)) (fun _ _ _ h => h) (Or.inl ⟨by rfl, ?_⟩) ?_ ?_
    rotate_left
    · intro w'
      go_simp
      try with_reducible rfl
    rotate_left
    · simp only [Act.put, List.setIfInBounds_toArray, List.set_cons_zero, List.set_cons_succ]
      rfl
    refine take_ (i := 16) (N := some 23) (v := ?_) (a' := ?_) #[true, true, true, true, true, true, true, false, true, false, true, true, true, true, false, true, true, true, false, false, false, false, false] rfl rfl (take_ofW HT_.out HW_.out (by kernel_rfl)) (fun _ _ _ h => h) (Or.inl ⟨by rfl, ?_⟩) hHeld ?_ ?_
    rotate_left
    · intro w' hS'
      have hx := hS'.1 (w.heap.size, .cells #[.int .i64 1, .int .i64 cap, .int .i64 num, .int .i64 den, .int .i64 width, .int .i64 count, .int .i64 keys, .int .i64 slots, .int .i64 every, .int .i64 seg] 23 (0, 0)) (by simp)
      have c0 : w'.cell? ⟨w.heap.size, 1, none⟩ = some (.int .i64 cap) := by rw [cell_of_row w' _ 1 _ _ _ hx]; rfl
      go_simp
      try with_reducible rfl
    rotate_left
    · simp only [Act.put, List.setIfInBounds_toArray, List.set_cons_zero, List.set_cons_succ]
      rfl
    refine take_ (i := 18) (N := some 25) (v := ?_) (a' := ?_) #[true, true, true, true, true, true, true, false, true, false, true, true, true, true, false, true, true, true, true, false, false, false, false] rfl rfl (take_ofW HT_.out HW_.out (by kernel_rfl)) (fun _ _ _ h => h) (Or.inl ⟨by rfl, ?_⟩) hHeld ?_ ?_
    rotate_left
    · intro w' hS'
      have hx := hS'.1 (w.heap.size, .cells #[.int .i64 1, .int .i64 cap, .int .i64 num, .int .i64 den, .int .i64 width, .int .i64 count, .int .i64 keys, .int .i64 slots, .int .i64 every, .int .i64 seg] 23 (0, 0)) (by simp)
      have c0 : w'.cell? ⟨w.heap.size, 3, none⟩ = some (.int .i64 den) := by rw [cell_of_row w' _ 3 _ _ _ hx]; rfl
      go_simp
      try with_reducible rfl
    rotate_left
    · simp only [Act.put, List.setIfInBounds_toArray, List.set_cons_zero, List.set_cons_succ]
      rfl
    refine pure_ (i := 19) (N := some 26) (v := ?_) (a' := ?_) #[true, true, true, true, true, true, true, false, true, false, true, true, true, true, false, true, true, true, true, true, false, false, false] rfl rfl (any_of HT_.out (by kernel_rfl)) (fun _ _ _ h => h) (Or.inl ⟨by rfl, ?_⟩) ?_ ?_
    rotate_left
    · intro w'
      go_simp
      try with_reducible rfl
    rotate_left
    · simp only [Act.put, List.setIfInBounds_toArray, List.set_cons_zero, List.set_cons_succ]
      rfl
    refine one_ (i := 7) (N := some 14) #[true, true, true, true, true, true, true, true, true, false, true, true, true, true, false, true, true, true, true, true, false, false, false] rfl rfl (one_of HT_.out (by kernel_rfl)) (by decide) (fun K hK => ?_)
    refine goes_ Try.func133 (by kernel_rfl) rfl #[.int .i64 4611686018427387903] (by rfl) rfl rfl (by simp [Act.eval]) ?_
    refine (clip_fn _ _).mono ?_
    rintro e w3 ⟨rfl, hb, hx3⟩
    refine ⟨_, rfl, ?_⟩
    simp only [Act.put, List.setIfInBounds_toArray, List.set_cons_zero, List.set_cons_succ]
    have HX3 := Aside0.mk hx3
    refine hK.out _ _ (hHeld.step hb) (fun hHeld => ?_)
    clear hK K
    refine one_ (i := 9) (N := some 16) #[true, true, true, true, true, true, true, true, true, true, true, true, true, true, false, true, true, true, true, true, false, false, false] rfl rfl (one_of HT_.out (by kernel_rfl)) (by decide) (fun K hK => ?_)
    refine call_ 135 #[.int .i64 owed, .pointer (some ⟨w1.heap.size, 0, none⟩)] (by rfl) rfl (by go_simp) ?_
    refine (clip_eq owed _ _ _ owed (by rw [cell_of_row _ _ 0 _ _ _ HX3.out]; rfl) HE.out).mono ?_
    rintro e w4 ⟨rfl, hw4⟩
    refine ⟨_, rfl, ?_⟩
    simp only [Act.put, List.setIfInBounds_toArray, List.set_cons_zero, List.set_cons_succ]
    rw [hw4]
    clear hw4 w4
    refine hK.out _ _ (hHeld) (fun hHeld => ?_)
    clear hK K
    refine pure_ (i := 14) (N := some 21) (v := ?_) (a' := ?_) #[true, true, true, true, true, true, true, true, true, true, true, true, true, true, true, true, true, true, true, true, false, false, false] rfl rfl (any_of HT_.out (by kernel_rfl)) (fun _ _ _ h => h) (Or.inl ⟨by rfl, ?_⟩) ?_ ?_
    rotate_left
    · intro w'
      go_simp
      try with_reducible rfl
    rotate_left
    · simp only [Act.put, List.setIfInBounds_toArray, List.set_cons_zero, List.set_cons_succ]
      rfl
    refine pure_ (i := 20) (N := some 27) (v := ?_) (a' := ?_) #[true, true, true, true, true, true, true, true, true, true, true, true, true, true, true, true, true, true, true, true, true, false, false] rfl rfl (any_of HT_.out (by kernel_rfl)) (fun _ _ _ h => h) (Or.inl ⟨by rfl, ?_⟩) ?_ ?_
    rotate_left
    · intro w'
      go_simp
      try with_reducible rfl
    rotate_left
    · simp only [Act.put, List.setIfInBounds_toArray, List.set_cons_zero, List.set_cons_succ]
      rfl
    refine pure_ (i := 21) (N := some 28) (v := ?_) (a' := ?_) #[true, true, true, true, true, true, true, true, true, true, true, true, true, true, true, true, true, true, true, true, true, true, false] rfl rfl (any_of HT_.out (by kernel_rfl)) (fun _ _ _ h => h) (Or.inl ⟨by rfl, ?_⟩) ?_ ?_
    rotate_left
    · intro w'
      go_simp
      try with_reducible rfl
    rotate_left
    · simp only [Act.put, List.setIfInBounds_toArray, List.set_cons_zero, List.set_cons_succ]
      rfl
    refine pure_ (i := 22) (N := some 6) (v := ?_) (a' := ?_) #[true, true, true, true, true, true, true, true, true, true, true, true, true, true, true, true, true, true, true, true, true, true, true] rfl rfl (any_of HT_.out (by kernel_rfl)) (fun _ _ _ h => h) (Or.inl ⟨by rfl, ?_⟩) ?_ ?_
    rotate_left
    · intro w'
      go_simp
      try with_reducible rfl
    rotate_left
    · simp only [Act.put, List.setIfInBounds_toArray, List.set_cons_zero, List.set_cons_succ]
      rfl
    refine done_ (done_of HT_.out (by kernel_rfl)) ?_
    have HB := Aside0.mk hHeld.2
    clear hHeld HT_ HW_
    go_wp2_with fail
    go_ret
    exact ⟨rfl, HB.out⟩
  · have HD := Aside0.mk (decide_eq_false hd)
    have hres : decide ((1 ≤ cost ∧ cost ≤ 1048576) ∧ owed + cost * den ≤ cap * den) = false := decide_eq_false (fun h => hd h.1)
    simp only [hres]
    clear hpi hp hres
    go_enter Try.func130, Try.ntmps130
    go_wp2_with fail
    refine start_ (n := 23) (S := HeldB w [(w.heap.size, .cells #[.int .i64 1, .int .i64 cap, .int .i64 num, .int .i64 den, .int .i64 width, .int .i64 count, .int .i64 keys, .int .i64 slots, .int .i64 every, .int .i64 seg] 23 (0, 0))]) (ds := []) #[false, false, false, false, false, false, false, false, false, false, false, false, false, false, false, false, false, false, false, false, false, false, false] (by kernel_rfl) rfl rfl (HS0.out.drew) (fun hHeld => ?_); refine with_tabW bmay__tab1 bmay__bits1 (fun HT_ HW_ => ?_)
    refine take_ (i := 0) (N := some 7) (v := .agg #[.int .i64 1, .int .i64 cap, .int .i64 num, .int .i64 den, .int .i64 width, .int .i64 count, .int .i64 keys, .int .i64 slots, .int .i64 every, .int .i64 seg]) (a' := ?_) #[true, false, false, false, false, false, false, false, false, false, false, false, false, false, false, false, false, false, false, false, false, false, false] rfl rfl (take_ofW HT_.out HW_.out (by kernel_rfl)) (fun _ _ _ h => h) (yields_blk (by rfl) 23 _ rfl w.heap.size rfl (fun w' hS' => hS'.1 (w.heap.size, .cells #[.int .i64 1, .int .i64 cap, .int .i64 num, .int .i64 den, .int .i64 width, .int .i64 count, .int .i64 keys, .int .i64 slots, .int .i64 every, .int .i64 seg] 23 (0, 0)) (by simp)) Try.underlying23 rfl infoPol) hHeld ?_ ?_
    rotate_left
    · simp only [Act.put, List.setIfInBounds_toArray, List.set_cons_zero, List.set_cons_succ]
      rfl
    refine one_ (i := 1) (N := some 8) #[true, true, false, false, false, false, false, false, false, false, false, false, false, false, false, false, false, false, false, false, false, false, false] rfl rfl (one_of HT_.out (by kernel_rfl)) (by decide) (fun K hK => ?_)
    refine goes_ Try.func132 (by kernel_rfl) rfl #[.agg #[.int .i64 1, .int .i64 cap, .int .i64 num, .int .i64 den, .int .i64 width, .int .i64 count, .int .i64 keys, .int .i64 slots, .int .i64 every, .int .i64 seg]] (by rfl) rfl rfl (by simp [Act.eval]) ?_
    refine (HM.out _).mono ?_
    rintro e w1 ⟨rfl, hb⟩
    refine ⟨_, rfl, ?_⟩
    simp only [Act.put, List.setIfInBounds_toArray, List.set_cons_zero, List.set_cons_succ]
    refine hK.out _ _ (hHeld.step hb) (fun hHeld => ?_)
    clear hK K
    refine pure_ (i := 2) (N := some 9) (v := ?_) (a' := ?_) #[true, true, true, false, false, false, false, false, false, false, false, false, false, false, false, false, false, false, false, false, false, false, false] rfl rfl (any_of HT_.out (by kernel_rfl)) (fun _ _ _ h => h) (Or.inl ⟨by rfl, ?_⟩) ?_ ?_
    rotate_left
    · intro w'
      go_simp
      try with_reducible rfl
    rotate_left
    · simp only [Act.put, List.setIfInBounds_toArray, List.set_cons_zero, List.set_cons_succ]
      rfl
    refine pure_ (i := 3) (N := some 10) (v := ?_) (a' := ?_) #[true, true, true, true, false, false, false, false, false, false, false, false, false, false, false, false, false, false, false, false, false, false, false] rfl rfl (any_of HT_.out (by kernel_rfl)) (fun _ _ _ h => h) (Or.inl ⟨by rfl, ?_⟩) ?_ ?_
    rotate_left
    · intro w'
      go_simp
      try with_reducible rfl
    rotate_left
    · simp only [Act.put, List.setIfInBounds_toArray, List.set_cons_zero, List.set_cons_succ]
      rfl
    refine one_ (i := 4) (N := some 11) #[true, true, true, true, true, false, false, false, false, false, false, false, false, false, false, false, false, false, false, false, false, false, false] rfl rfl (one_of HT_.out (by kernel_rfl)) (by decide) (fun K hK => ?_)
    refine goes_ Try.func134 (by kernel_rfl) rfl #[.int .i64 cost] (by rfl) rfl rfl (by simp [Act.eval]) ?_
    refine (bmay_fn cost _).mono ?_
    rintro e w2 ⟨rfl, hw2⟩
    refine ⟨_, rfl, ?_⟩
    simp only [Act.put, List.setIfInBounds_toArray, List.set_cons_zero, List.set_cons_succ]
    rw [HD.out, hw2]
    clear hw2 w2
    refine hK.out _ _ (hHeld) (fun hHeld => ?_)
    clear hK K
    refine pure_ (i := 5) (N := some 12) (v := ?_) (a' := ?_) #[true, true, true, true, true, true, false, false, false, false, false, false, false, false, false, false, false, false, false, false, false, false, false] rfl rfl (any_of HT_.out (by kernel_rfl)) (fun _ _ _ h => h) (Or.inl ⟨by rfl, ?_⟩) ?_ ?_
    rotate_left
    · intro w'
      go_simp
      try with_reducible rfl
    rotate_left
    · simp only [Act.put, List.setIfInBounds_toArray, List.set_cons_zero, List.set_cons_succ]
      rfl
    refine pure_ (i := 6) (N := some 13) (v := ?_) (a' := ?_) #[true, true, true, true, true, true, true, false, false, false, false, false, false, false, false, false, false, false, false, false, false, false, false] rfl rfl (any_of HT_.out (by kernel_rfl)) (fun _ _ _ h => h) (Or.inl ⟨by rfl, ?_⟩) ?_ ?_
    rotate_left
    · intro w'
      go_simp
      try with_reducible rfl
    rotate_left
    · simp only [Act.put, List.setIfInBounds_toArray, List.set_cons_zero, List.set_cons_succ]
      rfl
    refine pure_ (i := 7) (N := some 14) (v := undef) (a' := ?_) #[true, true, true, true, true, true, true, true, false, false, false, false, false, false, false, false, false, false, false, false, false, false, false] rfl rfl (any_of HT_.out (by kernel_rfl)) (fun _ _ _ h => h) (Or.inr ⟨by rfl, rfl⟩) ?_ ?_
    rotate_left
    · simp only [Act.put, List.setIfInBounds_toArray, List.set_cons_zero, List.set_cons_succ]
      rfl
    refine pure_ (i := 8) (N := some 15) (v := undef) (a' := ?_) #[true, true, true, true, true, true, true, true, true, false, false, false, false, false, false, false, false, false, false, false, false, false, false] rfl rfl (any_of HT_.out (by kernel_rfl)) (fun _ _ _ h => h) (Or.inr ⟨by rfl, rfl⟩) ?_ ?_
    rotate_left
    · simp only [Act.put, List.setIfInBounds_toArray, List.set_cons_zero, List.set_cons_succ]
      rfl
    refine pure_ (i := 10) (N := some 17) (v := undef) (a' := ?_) #[true, true, true, true, true, true, true, true, true, false, true, false, false, false, false, false, false, false, false, false, false, false, false] rfl rfl (any_of HT_.out (by kernel_rfl)) (fun _ _ _ h => h) (Or.inr ⟨by rfl, rfl⟩) ?_ ?_
    rotate_left
    · simp only [Act.put, List.setIfInBounds_toArray, List.set_cons_zero, List.set_cons_succ]
      rfl
    refine pure_ (i := 11) (N := some 18) (v := undef) (a' := ?_) #[true, true, true, true, true, true, true, true, true, false, true, true, false, false, false, false, false, false, false, false, false, false, false] rfl rfl (any_of HT_.out (by kernel_rfl)) (fun _ _ _ h => h) (Or.inr ⟨by rfl, rfl⟩) ?_ ?_
    rotate_left
    · simp only [Act.put, List.setIfInBounds_toArray, List.set_cons_zero, List.set_cons_succ]
      rfl
    refine pure_ (i := 15) (N := some 22) (v := undef) (a' := ?_) #[true, true, true, true, true, true, true, true, true, false, true, true, false, false, false, true, false, false, false, false, false, false, false] rfl rfl (any_of HT_.out (by kernel_rfl)) (fun _ _ _ h => h) (Or.inr ⟨by rfl, rfl⟩) ?_ ?_
    rotate_left
    · simp only [Act.put, List.setIfInBounds_toArray, List.set_cons_zero, List.set_cons_succ]
      rfl
    refine pure_ (i := 17) (N := some 24) (v := undef) (a' := ?_) #[true, true, true, true, true, true, true, true, true, false, true, true, false, false, false, true, false, true, false, false, false, false, false] rfl rfl (any_of HT_.out (by kernel_rfl)) (fun _ _ _ h => h) (Or.inr ⟨by rfl, rfl⟩) ?_ ?_
    rotate_left
    · simp only [Act.put, List.setIfInBounds_toArray, List.set_cons_zero, List.set_cons_succ]
      rfl
    refine pure_ (i := 9) (N := some 16) (v := undef) (a' := ?_) #[true, true, true, true, true, true, true, true, true, true, true, true, false, false, false, true, false, true, false, false, false, false, false] rfl rfl (any_of HT_.out (by kernel_rfl)) (fun _ _ _ h => h) (Or.inr ⟨by rfl, rfl⟩) ?_ ?_
    rotate_left
    · simp only [Act.put, List.setIfInBounds_toArray, List.set_cons_zero, List.set_cons_succ]
      rfl
    refine pure_ (i := 12) (N := some 19) (v := undef) (a' := ?_) #[true, true, true, true, true, true, true, true, true, true, true, true, true, false, false, true, false, true, false, false, false, false, false] rfl rfl (any_of HT_.out (by kernel_rfl)) (fun _ _ _ h => h) (Or.inr ⟨by rfl, rfl⟩) ?_ ?_
    rotate_left
    · simp only [Act.put, List.setIfInBounds_toArray, List.set_cons_zero, List.set_cons_succ]
      rfl
    refine pure_ (i := 16) (N := some 23) (v := undef) (a' := ?_) #[true, true, true, true, true, true, true, true, true, true, true, true, true, false, false, true, true, true, false, false, false, false, false] rfl rfl (any_of HT_.out (by kernel_rfl)) (fun _ _ _ h => h) (Or.inr ⟨by rfl, rfl⟩) ?_ ?_
    rotate_left
    · simp only [Act.put, List.setIfInBounds_toArray, List.set_cons_zero, List.set_cons_succ]
      rfl
    refine pure_ (i := 18) (N := some 25) (v := undef) (a' := ?_) #[true, true, true, true, true, true, true, true, true, true, true, true, true, false, false, true, true, true, true, false, false, false, false] rfl rfl (any_of HT_.out (by kernel_rfl)) (fun _ _ _ h => h) (Or.inr ⟨by rfl, rfl⟩) ?_ ?_
    rotate_left
    · simp only [Act.put, List.setIfInBounds_toArray, List.set_cons_zero, List.set_cons_succ]
      rfl
    refine pure_ (i := 13) (N := some 20) (v := undef) (a' := ?_) #[true, true, true, true, true, true, true, true, true, true, true, true, true, true, false, true, true, true, true, false, false, false, false] rfl rfl (any_of HT_.out (by kernel_rfl)) (fun _ _ _ h => h) (Or.inr ⟨by rfl, rfl⟩) ?_ ?_
    rotate_left
    · simp only [Act.put, List.setIfInBounds_toArray, List.set_cons_zero, List.set_cons_succ]
      rfl
    refine pure_ (i := 19) (N := some 26) (v := undef) (a' := ?_) #[true, true, true, true, true, true, true, true, true, true, true, true, true, true, false, true, true, true, true, true, false, false, false] rfl rfl (any_of HT_.out (by kernel_rfl)) (fun _ _ _ h => h) (Or.inr ⟨by rfl, rfl⟩) ?_ ?_
    rotate_left
    · simp only [Act.put, List.setIfInBounds_toArray, List.set_cons_zero, List.set_cons_succ]
      rfl
    refine pure_ (i := 14) (N := some 21) (v := undef) (a' := ?_) #[true, true, true, true, true, true, true, true, true, true, true, true, true, true, true, true, true, true, true, true, false, false, false] rfl rfl (any_of HT_.out (by kernel_rfl)) (fun _ _ _ h => h) (Or.inr ⟨by rfl, rfl⟩) ?_ ?_
    rotate_left
    · simp only [Act.put, List.setIfInBounds_toArray, List.set_cons_zero, List.set_cons_succ]
      rfl
    refine pure_ (i := 20) (N := some 27) (v := undef) (a' := ?_) #[true, true, true, true, true, true, true, true, true, true, true, true, true, true, true, true, true, true, true, true, true, false, false] rfl rfl (any_of HT_.out (by kernel_rfl)) (fun _ _ _ h => h) (Or.inr ⟨by rfl, rfl⟩) ?_ ?_
    rotate_left
    · simp only [Act.put, List.setIfInBounds_toArray, List.set_cons_zero, List.set_cons_succ]
      rfl
    refine pure_ (i := 21) (N := some 28) (v := ?_) (a' := ?_) #[true, true, true, true, true, true, true, true, true, true, true, true, true, true, true, true, true, true, true, true, true, true, false] rfl rfl (any_of HT_.out (by kernel_rfl)) (fun _ _ _ h => h) (Or.inl ⟨by rfl, ?_⟩) ?_ ?_
    rotate_left
    · intro w'
      go_simp
      try with_reducible rfl
    rotate_left
    · simp only [Act.put, List.setIfInBounds_toArray, List.set_cons_zero, List.set_cons_succ]
      rfl
    refine pure_ (i := 22) (N := some 6) (v := ?_) (a' := ?_) #[true, true, true, true, true, true, true, true, true, true, true, true, true, true, true, true, true, true, true, true, true, true, true] rfl rfl (any_of HT_.out (by kernel_rfl)) (fun _ _ _ h => h) (Or.inl ⟨by rfl, ?_⟩) ?_ ?_
    rotate_left
    · intro w'
      go_simp
      try with_reducible rfl
    rotate_left
    · simp only [Act.put, List.setIfInBounds_toArray, List.set_cons_zero, List.set_cons_succ]
      rfl
    refine done_ (done_of HT_.out (by kernel_rfl)) ?_
    have HB := Aside0.mk hHeld.2
    clear hHeld HT_ HW_
    go_wp2_with fail
    go_ret
    exact ⟨rfl, HB.out⟩
end Go.Proofs.Ytnodnpenlplleaa.Own
