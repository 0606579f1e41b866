/- Layer 8, the window, where the policy may be: means, Grid, Total; what its lists are asked. -/
import Derived.Test.YtnodnpenlplleaaBuckM
import Derived.Test.YtnodnpenlplleaaHeld
namespace Go.Proofs.Ytnodnpenlplleaa.Own
open Go.RowKit Go.Proofs.YtnodnpenlplleaaW.PrintWords Go.Proofs.YtnodnpenlplleaaW.PrintLast Go.Proofs.YtnodnpenlplleaaW.PrintMore
set_option linter.unusedVariables false
set_option linter.unusedSimpArgs false
attribute [local go_sem] max2_int min2_int max_two min_two

set_option maxRecDepth 100000 in
set_option maxHeartbeats 600000 in
theorem wmeans_fn (p : Pol) (w : World) (hp : p.ok) (hk : p.kind = 2) :
    Calls Try.prog 87 #[p.val] w fun e w' => e = .returned (.bool true) ∧ Below w.heap.size w w' := by
  have hpr := p.right
  rw [show p.E = 0 from hp] at hpr
  clear hp
  obtain ⟨kind, cap, num, den, width, count, keys, slots, every, seg⟩ := p
  simp only at hk
  subst hk
  simp only [Pol.val, Pol.cells] at hpr ⊢
  have hg := heap_alloc_new w (.cells #[.int .i64 2, .int .i64 cap, .int .i64 num, .int .i64 den, .int .i64 width, .int .i64 count, .int .i64 keys, .int .i64 slots, .int .i64 every, .int .i64 seg] 23 (0, 0))
  have HG := Aside0.mk hg
  have HPR := Aside0.mk hpr
  clear hg hpr
  go_enter Try.func87, Try.ntmps87
  go_wp2_with (first | ((with_reducible refine gload 23 rfl ?_); (try (refine gate_guard (by rfl) ?_; dsimp only)); refine wpList_load_blk rfl 23 _ rfl w.heap.size _ 23 _ rfl HG.out _ Try.underlying23 rfl infoPol ?_) | fail)
  refine (HPR.out _).mono ?_
  rintro e w1 ⟨rfl, hb1⟩
  have HB1 := Aside0.mk (((Below.refl _ w).alloc (Nat.le_refl _) _).trans (hb1.mono (by simp)))
  clear hb1 HG HPR
  go_wp2_with fail
  go_ret
  exact ⟨rfl, HB1.out⟩

theorem wclip_fn (n : Int) (w : World) (r : Int) (hr : mn (mx n 0) 1099511627776 = r) :
    Calls Try.prog 100 #[.int .i64 n] w fun e w' => e = .returned (.int .i64 r) ∧ w' = w := by
  subst hr
  go_enter Try.func100, Try.ntmps100
  go_wp2_with fail
  all_goals
    go_ret
    refine ⟨congrArg (fun r => Ending.returned (Value.int .i64 r)) ?_, rfl⟩
    unfold mn mx
    (repeat' split) <;> omega
theorem wmay_fn (cost : Int) (w : World) :
    Calls Try.prog 144 #[.int .i64 cost] w fun e w' => e = .returned (.bool (decide (1 ≤ cost ∧ cost ≤ 1048576))) ∧ w' = w := by
  go_enter Try.func144, Try.ntmps144
  by_cases h1 : 1 ≤ cost
  · go_wp2_with fail
    go_ret
    simp [h1]
  · go_wp2_with fail
    go_ret
    simp [h1]
    omega
theorem wrong_fn (n : Int) (w : World) :
    Calls Try.prog 146 #[.int .i64 n] w fun e w' => e = .returned (.bool (decide (n < 0 ∨ 1099511627776 < n))) ∧ w' = w := by
  go_enter Try.func146, Try.ntmps146
  by_cases h1 : n < 0
  · go_wp2_with fail
    go_ret
    simp [h1]
  · go_wp2_with fail
    go_ret
    simp [h1]
    omega
theorem some_fn (n : Int) (w : World) :
    Calls Try.prog 64 #[.int .i64 n] w fun e w' => e = .returned (.bool (n != 0)) ∧ w' = w := by
  go_enter Try.func64, Try.ntmps64
  go_wp2_with fail
  go_ret
  simp

set_option maxRecDepth 100000 in
set_option maxHeartbeats 1000000 in
theorem Grid_fn (p : Pol) (tick : Int) (w : World) (hp : p.ok) (hk : p.kind = 2) (h0 : 0 ≤ tick) (h1 : tick ≤ 1099511627776) :
    Calls Try.prog 88 #[p.val, .int .i64 tick] w fun e w' => e = .returned (.int .i64 (tick / p.width)) ∧ Below w.heap.size w w' := by
  have HM := Aside0.mk (fun w' => wmeans_fn p w' hp hk)
  have hpi := Pol.is hp
  obtain ⟨kind, cap, num, den, width, count, keys, slots, every, seg⟩ := p
  simp only at hk hpi
  subst hk
  simp only [Pol.val, Pol.cells] at HM ⊢
  have hw0 : 1 ≤ width := by omega
  have hw1 : width ≤ 1048576 := by omega
  have hw2 : (width == 0) = false := by simp; omega
  have HD := Aside0.mk (show Int.tdiv tick width = tick / width from Int.tdiv_eq_ediv_of_nonneg h0)
  have d0 : 0 ≤ tick / width := Int.ediv_nonneg h0 (by omega)
  have d1 : tick / width ≤ tick := Int.ediv_le_self _ h0
  have HC := Aside0.mk (show mn (mx tick 0) 1099511627776 = tick from by unfold mn mx; omega)
  have hg := heap_alloc_new w (.cells #[.int .i64 2, .int .i64 cap, .int .i64 num, .int .i64 den, .int .i64 width, .int .i64 count, .int .i64 keys, .int .i64 slots, .int .i64 every, .int .i64 seg] 23 (0, 0))
  have HG := Aside0.mk hg
  clear hg hpi hp
  go_enter Try.func88, Try.ntmps88
  go_wp2_with (first | ((with_reducible refine gload 23 rfl ?_); refine wpList_load_blk rfl 23 _ rfl w.heap.size _ 23 _ rfl HG.out _ Try.underlying23 rfl infoPol ?_) | fail)
  refine (HM.out _).mono ?_
  rintro e w1 ⟨rfl, hb1⟩
  have HB1 := Aside0.mk (((Below.refl _ w).alloc (Nat.le_refl _) _).trans (hb1.mono (by simp)))
  have c4 : w1.cell? ⟨w.heap.size, 4, none⟩ = some (.int .i64 width) := by rw [cell_of_row w1 _ 4 _ _ _ ((hb1.block _ (by simp)).trans HG.out)]; rfl
  clear hb1 HG HM
  go_wp2_with fail
  go_quiet (exact Calls.quiet_of_same (wclip_fn tick _ tick HC.out))
  go_wp2_with fail
  go_ret
  exact ⟨rfl, pw_below_drewN HB1.out _⟩

/-- All that is on a list of whole numbers. -/
def sumI : List Int → Int
  | [] => 0
  | x :: l => x + sumI l
theorem sumI_append (l m : List Int) : sumI (l ++ m) = sumI l + sumI m := by
  induction l with
  | nil => simp [sumI]
  | cons x l ih => simp [sumI, ih]; omega
theorem sumI_snoc (l : List Int) (x : Int) : sumI (l ++ [x]) = sumI l + x := by rw [sumI_append]; simp [sumI]
theorem take_rdI (l : List Int) {j : Nat} (h : j < l.length) : l.take (j + 1) = l.take j ++ [rd l (j : Int)] := by
  rw [List.take_add_one, List.getElem?_eq_getElem h]
  simp [rd, List.getD_eq_getElem?_getD, h]
theorem rd_memI (l : List Int) {j : Nat} (h : j < l.length) : rd l (j : Int) ∈ l := by
  have : rd l (j : Int) = l[j] := by simp [rd, List.getD_eq_getElem?_getD, h]
  rw [this]; exact List.getElem_mem h
def okL (l : List Int) : Prop := ∀ x ∈ l, 0 ≤ x ∧ x ≤ 1099511627776
theorem sumI_bound {l : List Int} (h : okL l) : 0 ≤ sumI l ∧ sumI l ≤ l.length * 1099511627776 := by
  induction l with
  | nil => simp [sumI]
  | cons x l ih =>
    have h1 := ih (fun y hy => h y (by simp [hy]))
    have h2 := h x (by simp)
    simp only [sumI, List.length_cons]
    omega

set_option maxRecDepth 100000 in
set_option maxHeartbeats 1000000 in
theorem sum_fn (A : Option Addr) (c : Nat) (l : List Int) (w : World) (hr : Kd.C (Kd.int .i64) w A l.length l) (hl : l.length ≤ 32) (hok : okL l) :
    Calls Try.prog 148 #[.slice A l.length c] w fun e w' => e = .returned (.int .i64 (sumI l)) ∧ w' = w := by
  have HR := Aside0.mk hr
  have HOK := Aside0.mk hok
  clear hr hok
  go_enter Try.func148, Try.ntmps148
  go_wp2_with fail
  go_loopw [3, 8] (fun n i wr => ∃ j : Nat, j ≤ l.length ∧ i = .int .i64 (j : Int) ∧ n = .int .i64 (sumI (l.take j)) ∧ wr = w) (fun _ i _ => l.length - (intOf i).toNat)
  case atStart => exact ⟨0, by omega, rfl, rfl, rfl⟩
  case round =>
    obtain ⟨j, hj, rfl, rfl, rfl⟩ := hrel
    by_cases hlt : j < l.length
    · obtain ⟨ad, eA, c0⟩ := Kd.at_int HR.out (j : Int) (by omega) (by omega)
      subst eA
      simp only [Int.toNat_natCast] at c0
      have hx := HOK.out _ (rd_memI l hlt)
      have HT := Aside0.mk (show sumI (l.take (j + 1)) = sumI (l.take j) + rd l (j : Int) from by rw [take_rdI l hlt, sumI_snoc])
      have hb := sumI_bound (l := l.take j) (fun y hy => HOK.out y (List.mem_of_mem_take hy))
      simp only [List.length_take] at hb
      obtain ⟨x, hx'⟩ : ∃ x, rd l (j : Int) = x := ⟨_, rfl⟩
      obtain ⟨s, hs⟩ : ∃ s, sumI (l.take j) = s := ⟨_, rfl⟩
      rw [hx', hs] at HT
      rw [hx'] at hx c0
      rw [hs] at hb ⊢
      obtain ⟨x0, x1⟩ := hx
      have j0 : (0 : Int) ≤ (j : Int) := by omega
      have j1 : (j : Int) < (l.length : Int) := by omega
      have n0 : ¬ x < 0 := by omega
      have n1 : ¬ 1099511627776 < x := by omega
      have hw : IntKind.i64.wrap (s + x) = s + x := IntWalk.i64_in _ (by omega)
      clear hx' hs hb
      go_wp2_with fail
      go_roundw
      case rel => exact ⟨j + 1, by omega, by go_num, by rw [HT.out], trivial⟩
      case measure => simp [intOf]; omega
    · obtain rfl : j = l.length := by omega
      go_wp2_with fail
      go_ret
      simp

theorem Total_fn (g : Int) (A : Option Addr) (c : Nat) (l : List Int) (w : World) (hr : Kd.C (Kd.int .i64) w A l.length l) (hl : l.length ≤ 32) (hok : okL l) :
    Calls Try.prog 145 #[.agg #[.int .i64 g, .slice A l.length c]] w fun e w' => e = .returned (.int .i64 (sumI l)) ∧ Below w.heap.size w w' := by
  have hb : Below w.heap.size w (w.alloc (.cells #[.int .i64 g, .slice A l.length c] 106 (0, 0))) := (Below.refl _ w).alloc (Nat.le_refl _) _
  have HB := Aside0.mk hb
  have HR := Aside0.mk (Kd.C_below hr hb)
  have hl' : (l.length : Int) ≤ 32 := by omega
  clear hb hr
  go_enter Try.func145, Try.ntmps145
  go_wp2_with fail
  refine (sum_fn A c l _ HR.out hl hok).mono ?_
  rintro e w1 ⟨rfl, rfl⟩
  go_wp2_with fail
  go_ret
  exact ⟨rfl, HB.out⟩

/-- A closure that only looks at a whole number. -/
structure Looks (fc : Nat) (pr : Int → Bool) : Prop where
  enter : ∀ (args : Array Value) (w : World), (callFunc fc args).run Try.prog w = .ok (.enter fc args) w
  calls : ∀ (n : Int) (w : World), Calls Try.prog fc #[.int .i64 n] w fun e w' => e = .returned (.bool (pr n)) ∧ w' = w
theorem wrong_looks : Looks 146 (fun n => decide (n < 0 ∨ 1099511627776 < n)) := ⟨fun args w => enters_ Try.func146 (by kernel_rfl) rfl args w, wrong_fn⟩
theorem some_looks : Looks 64 (fun n => n != 0) := ⟨fun args w => enters_ Try.func64 (by kernel_rfl) rfl args w, some_fn⟩

set_option maxRecDepth 100000 in
set_option maxHeartbeats 1000000 in
theorem IndexFunc_fn (fc : Nat) (pr : Int → Bool) (hfc : Looks fc pr) (A : Option Addr) (c : Nat) (l : List Int) (w : World) (hr : Kd.C (Kd.int .i64) w A l.length l) (hl : l.length ≤ 32) :
    Calls Try.prog 80 #[.slice A l.length c, .func (.func fc) #[] #[]] w fun e w' => ∃ r : Int, e = .returned (.int .i64 r) ∧ w' = w ∧ l.any pr = decide (0 ≤ r) := by
  have HR := Aside0.mk hr
  have HF := Aside0.mk hfc
  clear hr hfc
  go_enter Try.func80, Try.ntmps80
  go_wp2_with fail
  go_loopw [8] (fun i wr => ∃ j : Nat, j ≤ l.length ∧ i = .int .i64 (j : Int) ∧ Aside0 ((l.take j).any pr = false) ∧ wr = w) (fun i _ => l.length - (intOf i).toNat)
  case atStart => exact ⟨0, by omega, rfl, ⟨by simp⟩, rfl⟩
  case round =>
    obtain ⟨j, hj, rfl, HN, rfl⟩ := hrel
    by_cases hlt : j < l.length
    · obtain ⟨ad, eA, c0⟩ := Kd.at_int HR.out (j : Int) (by omega) (by omega)
      subst eA
      simp only [Int.toNat_natCast] at c0
      have HT := Aside0.mk (show (l.take (j + 1)).any pr = ((l.take j).any pr || pr (rd l (j : Int))) from by rw [take_rdI l hlt]; simp)
      have HM := Aside0.mk (rd_memI l hlt)
      obtain ⟨x, hx'⟩ : ∃ x, rd l (j : Int) = x := ⟨_, rfl⟩
      rw [hx'] at HT HM c0
      have j0 : (0 : Int) ≤ (j : Int) := by omega
      have j1 : (j : Int) < (l.length : Int) := by omega
      clear hx'
      go_wp2_with fail
      rw [HF.out.enter, Oper.upon_enter]
      refine (HF.out.calls x _).mono ?_
      rintro e w1 ⟨rfl, rfl⟩
      by_cases hp : pr x = true
      · rw [hp]
        have HP := Aside0.mk hp
        clear hp
        go_wp2_with fail
        go_ret
        exact ⟨(j : Int), rfl, rfl, by rw [List.any_eq_true.2 ⟨x, HM.out, HP.out⟩]; simp⟩
      · have hp' : pr x = false := by simpa using hp
        rw [hp']
        have HP := Aside0.mk hp'
        clear hp hp'
        go_wp2_with fail
        go_roundw
        case rel => exact ⟨j + 1, by omega, by go_num, ⟨by rw [HT.out, HN.out, HP.out]; rfl⟩, trivial⟩
        case measure => simp [intOf]; omega
    · obtain rfl : j = l.length := by omega
      go_wp2_with fail
      go_ret
      refine ⟨-1, rfl, rfl, ?_⟩
      have := HN.out
      rw [List.take_length] at this
      rw [this]; rfl

theorem ContainsFunc_fn (fc : Nat) (pr : Int → Bool) (hfc : Looks fc pr) (A : Option Addr) (c : Nat) (l : List Int) (w : World) (hr : Kd.C (Kd.int .i64) w A l.length l) (hl : l.length ≤ 32) :
    Calls Try.prog 63 #[.slice A l.length c, .func (.func fc) #[] #[]] w fun e w' => e = .returned (.bool (l.any pr)) ∧ w' = w := by
  go_enter Try.func63, Try.ntmps63
  go_wp2_with fail
  refine (IndexFunc_fn fc pr hfc A c l _ hr hl).mono ?_
  rintro e w1 ⟨r, rfl, rfl, hany⟩
  have HANY := Aside0.mk hany
  clear hany hr hfc
  go_wp2_with fail
  go_ret
  simp [HANY.out]
end Go.Proofs.Ytnodnpenlplleaa.Own
