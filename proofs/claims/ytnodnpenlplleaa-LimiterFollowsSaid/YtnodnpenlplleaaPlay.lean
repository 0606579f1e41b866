/- Layer 9: play: calls on a ledger. -/
import Derived.Test.YtnodnpenlplleaaLedQ
import Derived.Test.YtnodnpenlplleaaOp
namespace Go.Proofs.Ytnodnpenlplleaa.Own
open Go.RowKit Go.Proofs.YtnodnpenlplleaaW.PrintWords Go.Proofs.YtnodnpenlplleaaW.PrintLast Go.Proofs.YtnodnpenlplleaaW.PrintMore
set_option linter.unusedVariables false
set_option linter.unusedSimpArgs false
attribute [local go_sem] Oper.semAt_some
def play__T5 : Bool × List (List Nat × List Nat) := (true, [([], []), ([], []), ([], []), ([1, 2], [1, 2]), ([3], [3]), ([4], [4]), ([], []), ([], []), ([6, 7], [6, 7]), ([8], [8]), ([9], [9]), ([0, 5, 10], [0, 5, 10])])
def play__B5 : List Nat := [0, 0, 0, 6, 14, 30, 0, 0, 192, 448, 960, 2047]
theorem play__tab5 : rtab .any (opsOf Try.f15 5) = play__T5 := by kernel_rfl
theorem play__bits5 : waitsOk play__T5.2 play__B5 = true := by kernel_rfl

def playOne (p : Pol) (s : LSt) (x : Po) : LSt := if x.d = 1 then moveS p s x.a else chargeS p s x.key x.a
def playS (p : Pol) (s : LSt) (l : List Po) : LSt := l.foldl (playOne p) s
theorem playS_rd (p : Pol) (s : LSt) (l : List Po) (j : Nat) (h : j < l.length) : playS p s (l.take (j + 1)) = playOne p (playS p s (l.take j)) (rdPo l (j : Int)) := by
  rw [takeP_rd l j h]
  unfold playS
  rw [List.foldl_append]
  rfl
theorem playOne_length (p : Pol) (s : LSt) (x : Po) : (playOne p s x).rows.length ≤ s.rows.length + 1 := by
  unfold playOne
  split
  · exact Nat.le_succ_of_le (moveS_length p s x.a)
  · exact chargeS_length p s x.key x.a
theorem playS_length (p : Pol) : ∀ (l : List Po) (s : LSt), (playS p s l).rows.length ≤ s.rows.length + l.length
  | [], s => by simp [playS]
  | x :: l, s => by
    have h1 := playS_length p l (playOne p s x)
    have h2 := playOne_length p s x
    simp only [playS, List.foldl_cons, List.length_cons] at h1 ⊢
    omega
theorem results_play (tmps : Array Value) (w : World) : Sem.run Try.prog (results Try.f15 tmps) w = .ok (.tuple #[]) w := by
  simp [results, Try.f15, go_sem]

set_option maxRecDepth 100000 in
set_option maxHeartbeats 2000000 in
theorem play_fn (w0 w : World) (sb mb : Nat) (p : Pol) (s : LSt) (A : Option Addr) (cp : Nat) (l : List Po) (h : LedI w0.heap.size w sb mb p s) (hn : w0.heap.size ≤ w.heap.size) (hb : Below w0.heap.size w0 w) (hlen : s.rows.length ≤ 10000) (hr : Kd.C kPo w0 A l.length l) (hs : ∀ r ∈ l, r.key.size ≤ maxLen) :
    Calls Try.prog 15 #[.pointer (some ⟨sb, 0, none⟩), .slice A l.length cp] w fun e w' => e = .returned (.tuple #[]) ∧ LedI w0.heap.size w' sb mb p (playS p s (l.take 200)) ∧ (Below w0.heap.size w0 w' ∧ w0.heap.size ≤ w'.heap.size) ∧ Keeps (fun k => k = sb ∨ k = mb) w w' := by
  have HR := Aside0.mk hr
  have HSS := Aside0.mk hs
  have H0 := Aside0.mk (And.intro h (And.intro hb hn))
  clear hr hs h hb hn
  go_enter Try.func15, Try.ntmps15
  go_wp2_with fail
  go_loopw [4] (fun i wr => ∃ j : Nat, j ≤ l.length ∧ j ≤ 200 ∧ i = .int .i64 (j : Int) ∧ Aside0 (LedI w0.heap.size wr sb mb p (playS p s (l.take j)) ∧ Below w0.heap.size w0 wr ∧ w0.heap.size ≤ wr.heap.size ∧ Keeps (fun k => k = sb ∨ k = mb) w wr)) (fun i _ => 200 - (intOf i).toNat)
  case atStart => exact ⟨0, by omega, by omega, rfl, ⟨H0.out.1, H0.out.2.1, H0.out.2.2, Keeps.refl _ _⟩⟩
  case round =>
    obtain ⟨j, hj, hj3, rfl, BS⟩ := hrel
    clear H0
    have h2 : (l.take j).length ≤ j := by rw [List.length_take]; omega
    have HLEN := Aside0.mk (show (playS p s (l.take j)).rows.length ≤ 100000 from by have h1 := playS_length p (l.take j) s; omega)
    clear h2
    by_cases hlt : j < l.length ∧ j < 200
    · obtain ⟨hlt, h300⟩ := hlt
      obtain ⟨ad, eA, c0, c1, c2⟩ := atPo HR.out (j : Int) (by omega) (by omega)
      subst eA
      simp only [Int.toNat_natCast] at c0 c1 c2
      have i0 : (0 : Int) ≤ (j : Int) := by omega
      have i1 : (j : Int) < (l.length : Int) := by omega
      have i3 : (j : Int) < 200 := by omega
      have HRN := Aside0.mk (playS_rd p s l j hlt)
      have HSZ := Aside0.mk (HSS.out _ (memP_rd l j hlt))
      generalize rdPo l (j : Int) = x at c0 c1 c2 HRN HSZ
      have C1 := Aside0.mk c1
      have C2 := Aside0.mk c2
      have k0 := (BS.out.2.1.cell (World.block_lt_of_cell? w0 _ c0)).trans c0
      have k1 := (BS.out.2.1.cell (World.block_lt_of_cell? w0 _ c1)).trans c1
      clear c0 c1 c2
      generalize playS p s (l.take j) = s1 at BS HLEN HRN
      by_cases hd : x.d = 1
      · have HP := Aside0.mk (show playOne p s1 x = moveS p s1 x.a from by unfold playOne; rw [if_pos hd])
        go_wp2_with fail
        refine (MoveI_fn w0.heap.size w0 wr sb mb p s1 x.a BS.out.1 BS.out.2.2.1 BS.out.2.1 HLEN.out).mono ?_
        rintro e w4 ⟨rfl, hl4, hb4, hk4⟩
        have HN := Aside0.mk (And.intro hl4 (And.intro hb4 (BS.out.2.2.2.trans hk4)))
        clear hl4 hb4 hk4 BS
        go_wp2_with fail
        go_roundw
        case rel => exact ⟨j + 1, by omega, by omega, by go_num, by rw [HRN.out, HP.out]; exact ⟨HN.out.1, HN.out.2.1.1, HN.out.2.1.2, HN.out.2.2⟩⟩
        case measure => simp [intOf]; omega
      · have HP := Aside0.mk (show playOne p s1 x = chargeS p s1 x.key x.a from by unfold playOne; rw [if_neg hd])
        go_wp2_with fail
        refine start_ (n := 12) (S := Below w0.heap.size w0) (ds := []) #[false, false, false, false, false, false, false, false, false, false, false, false] (by kernel_rfl) rfl rfl (BS.out.2.1.drew) (fun hHeld => ?_); refine with_tabW play__tab5 play__bits5 (fun HT_ HW_ => ?_)
        refine pure_ (i := 0) (N := some 28) (v := ?_) (a' := ?_) #[true, false, false, false, false, false, false, false, false, false, false, false] rfl rfl (any_of HT_.out (by kernel_rfl)) (fun _ _ _ h => h) (Or.inl ⟨by rfl, ?_⟩) ?_ ?_
        rotate_left
        · intro w'
          go_simp
          try with_reducible rfl
        rotate_left
        · simp only [Act.put, List.setIfInBounds_toArray, List.set_cons_zero, List.set_cons_succ]
          rfl
        refine pure_ (i := 1) (N := some 29) (v := ?_) (a' := ?_) #[true, true, false, false, false, false, false, false, false, false, false, false] rfl rfl (any_of HT_.out (by kernel_rfl)) (fun _ _ _ h => h) (Or.inl ⟨by rfl, ?_⟩) ?_ ?_
        rotate_left
        · intro w'
          go_simp
          try with_reducible rfl
        rotate_left
        · simp only [Act.put, List.setIfInBounds_toArray, List.set_cons_zero, List.set_cons_succ]
          rfl
        refine pure_ (i := 2) (N := some 30) (v := ?_) (a' := ?_) #[true, true, true, false, false, false, false, false, false, false, false, false] rfl rfl (any_of HT_.out (by kernel_rfl)) (fun _ _ _ h => h) (Or.inl ⟨by rfl, ?_⟩) ?_ ?_
        rotate_left
        · intro w'
          go_simp
          try with_reducible rfl
        rotate_left
        · simp only [Act.put, List.setIfInBounds_toArray, List.set_cons_zero, List.set_cons_succ]
          rfl
        refine pure_ (i := 6) (N := some 34) (v := ?_) (a' := ?_) #[true, true, true, false, false, false, true, false, false, false, false, false] rfl rfl (any_of HT_.out (by kernel_rfl)) (fun _ _ _ h => h) (Or.inl ⟨by rfl, ?_⟩) ?_ ?_
        rotate_left
        · intro w'
          go_simp
          try with_reducible rfl
        rotate_left
        · simp only [Act.put, List.setIfInBounds_toArray, List.set_cons_zero, List.set_cons_succ]
          rfl
        refine pure_ (i := 7) (N := some 35) (v := ?_) (a' := ?_) #[true, true, true, false, false, false, true, true, false, false, false, false] rfl rfl (any_of HT_.out (by kernel_rfl)) (fun _ _ _ h => h) (Or.inl ⟨by rfl, ?_⟩) ?_ ?_
        rotate_left
        · intro w'
          go_simp
          try with_reducible rfl
        rotate_left
        · simp only [Act.put, List.setIfInBounds_toArray, List.set_cons_zero, List.set_cons_succ]
          rfl
        refine pure_ (i := 3) (N := some 31) (v := ?_) (a' := ?_) #[true, true, true, true, false, false, true, true, false, false, false, false] rfl rfl (any_of HT_.out (by kernel_rfl)) (fun _ _ _ h => h) (Or.inl ⟨by rfl, ?_⟩) ?_ ?_
        rotate_left
        · intro w'
          go_simp
          try with_reducible rfl
        rotate_left
        · simp only [Act.put, List.setIfInBounds_toArray, List.set_cons_zero, List.set_cons_succ]
          rfl
        refine pure_ (i := 8) (N := some 36) (v := ?_) (a' := ?_) #[true, true, true, true, false, false, true, true, true, false, false, false] rfl rfl (any_of HT_.out (by kernel_rfl)) (fun _ _ _ h => h) (Or.inl ⟨by rfl, ?_⟩) ?_ ?_
        rotate_left
        · intro w'
          go_simp
          try with_reducible rfl
        rotate_left
        · simp only [Act.put, List.setIfInBounds_toArray, List.set_cons_zero, List.set_cons_succ]
          rfl
        refine pure_ (i := 4) (N := some 32) (v := ?_) (a' := ?_) #[true, true, true, true, true, false, true, true, true, false, false, false] rfl rfl (any_of HT_.out (by kernel_rfl)) (fun _ _ _ h => h) (Or.inl ⟨by rfl, ?_⟩) ?_ ?_
        rotate_left
        · intro w'
          go_simp
          try with_reducible rfl
        rotate_left
        · simp only [Act.put, List.setIfInBounds_toArray, List.set_cons_zero, List.set_cons_succ]
          rfl
        refine pure_ (i := 9) (N := some 37) (v := ?_) (a' := ?_) #[true, true, true, true, true, false, true, true, true, true, false, false] rfl rfl (any_of HT_.out (by kernel_rfl)) (fun _ _ _ h => h) (Or.inl ⟨by rfl, ?_⟩) ?_ ?_
        rotate_left
        · intro w'
          go_simp
          try with_reducible rfl
        rotate_left
        · simp only [Act.put, List.setIfInBounds_toArray, List.set_cons_zero, List.set_cons_succ]
          rfl
        refine take_ (i := 5) (N := some 33) (v := ?_) (a' := ?_) #[true, true, true, true, true, true, true, true, true, true, false, false] rfl rfl (take_ofW HT_.out HW_.out (by kernel_rfl)) (fun _ _ _ h => h) (Or.inl ⟨by rfl, ?_⟩) hHeld ?_ ?_
        rotate_left
        · intro w' hS'
          have d0 := (hS'.cell (World.block_lt_of_cell? w0 _ C2.out)).trans C2.out
          go_simp
          try with_reducible rfl
        rotate_left
        · simp only [Act.put, List.setIfInBounds_toArray, List.set_cons_zero, List.set_cons_succ]
          rfl
        refine take_ (i := 10) (N := some 38) (v := ?_) (a' := ?_) #[true, true, true, true, true, true, true, true, true, true, true, false] rfl rfl (take_ofW HT_.out HW_.out (by kernel_rfl)) (fun _ _ _ h => h) (Or.inl ⟨by rfl, ?_⟩) hHeld ?_ ?_
        rotate_left
        · intro w' hS'
          have d0 := (hS'.cell (World.block_lt_of_cell? w0 _ C1.out)).trans C1.out
          go_simp
          try with_reducible rfl
        rotate_left
        · simp only [Act.put, List.setIfInBounds_toArray, List.set_cons_zero, List.set_cons_succ]
          rfl
        refine one_ (i := 11) (N := some 39) #[true, true, true, true, true, true, true, true, true, true, true, true] rfl rfl (one_of HT_.out (by kernel_rfl)) (by decide) (fun K hK => ?_)
        refine goes_ Try.func20 (by kernel_rfl) rfl #[.pointer (some ⟨sb, 0, none⟩), .string x.key, .int .i64 x.a] (by rfl) rfl rfl (by simp [Act.eval]) ?_
        refine (ChargeI_fn w0.heap.size w0 _ sb mb p _ x.key x.a (BS.out.1.below ((Below.refl _ _).drew)) (by exact BS.out.2.2.1) hHeld HSZ.out HLEN.out).mono ?_
        rintro e w4 ⟨rfl, hl4, hb4, hk4⟩
        refine ⟨_, rfl, ?_⟩
        simp only [Act.put, List.setIfInBounds_toArray, List.set_cons_zero, List.set_cons_succ]
        have HN := Aside0.mk (And.intro hl4 (And.intro hb4 hk4))
        clear hl4 hk4
        refine hK.out _ _ (hb4.1) (fun hHeld => ?_)
        clear hK K
        refine done_ (done_of HT_.out (by kernel_rfl)) ?_
        clear hHeld HT_ HW_
        go_wp2_with fail
        go_roundw
        case rel => exact ⟨j + 1, by omega, by omega, by go_num, by rw [HRN.out, HP.out]; exact ⟨HN.out.1, HN.out.2.1.1, HN.out.2.1.2, (BS.out.2.2.2.drew).trans HN.out.2.2⟩⟩
        case measure => simp [intOf]; omega
    · have hend : ¬ ((j : Int) < (l.length : Int)) ∨ (j : Int) < (l.length : Int) ∧ ¬ ((j : Int) < 200) := by omega
      have HT := Aside0.mk (show l.take j = l.take 200 from by
        rcases hend with h | ⟨h, h'⟩
        · rw [List.take_of_length_le (by omega), List.take_of_length_le (by omega)]
        · rw [show j = 200 from by omega])
      clear hlt hj hj3
      rcases hend with hd1 | ⟨hd1, hd2⟩
      · go_wp2_with fail
        exact ⟨rfl, _, results_play _ _, rfl, by rw [← HT.out]; exact BS.out.1, ⟨BS.out.2.1, BS.out.2.2.1⟩, BS.out.2.2.2⟩
      · go_wp2_with fail
        exact ⟨rfl, _, results_play _ _, rfl, by rw [← HT.out]; exact BS.out.1, ⟨BS.out.2.1, BS.out.2.2.1⟩, BS.out.2.2.2⟩
end Go.Proofs.Ytnodnpenlplleaa.Own
