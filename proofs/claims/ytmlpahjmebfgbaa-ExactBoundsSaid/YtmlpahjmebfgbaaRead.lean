/- exact.read: the book of a list, or why it may not be. -/
import Derived.Test.YtmlpahjmebfgbaaPut
namespace Go.Proofs.Ytmlpahjmebfgbaa.Own
open Go.RowKit Go.Proofs.YtmlpahjmebfgbaaW.PrintWords Go.Proofs.YtmlpahjmebfgbaaW.PrintLast Go.Proofs.YtmlpahjmebfgbaaW.PrintMore Go.Proofs.Ytmlpahjmebfgbaa.PEx
open Go.Maps (Keyed)
set_option linter.unusedVariables false
set_option linter.unusedSimpArgs false

theorem take_rd (l : List S42) (j : Nat) (h : j < l.length) : l.take (j + 1) = l.take j ++ [rd_T42 l (j : Int)] := by
  rw [List.take_add_one]
  congr 1
  unfold rd_T42
  rw [Int.toNat_natCast, List.getD_eq_getElem?_getD, List.getElem?_eq_getElem h]
  rfl

set_option maxRecDepth 100000 in
set_option maxHeartbeats 4000000 in
theorem read_bad (k : Nat) (a0_0 a0_1 a0_2 a0_3 a0_4 a0_5 a0_6 a0_7 a0_8 a0_9 : Int) (A : Option Addr) (c : Nat) (l : List S42) (err : Int) (w : World) (hr : Kd.C k42 w A l.length l) (hc : l.length ≤ c)
    (h : exact_right.f k a0_0 a0_1 a0_2 a0_3 a0_4 a0_5 a0_6 a0_7 a0_8 a0_9 l = some err) (he : err ≠ 0) :
    Calls Try.prog 32 #[.agg #[.int .i64 a0_0, .int .i64 a0_1, .int .i64 a0_2, .int .i64 a0_3, .int .i64 a0_4, .int .i64 a0_5, .int .i64 a0_6, .int .i64 a0_7, .int .i64 a0_8, .int .i64 a0_9], .slice A l.length c] w fun e w' =>
      e = .returned (.tuple #[.map none, .int .i64 err]) ∧ Below w.heap.size w w' := by
  refine calls_of_wp Try.func32 rfl ?_
  simp only [Try.ntmps32, List.size_toArray, List.length_cons, List.length_nil, Nat.reduceAdd, Nat.reduceSub, Array.replicate_succ, Array.replicate_zero, List.push_toArray, List.append_toArray, List.nil_append, List.cons_append]
  go_wp2_with fail
  refine (exact_right.calls k a0_0 a0_1 a0_2 a0_3 a0_4 a0_5 a0_6 a0_7 a0_8 a0_9 A c l err _ (Kd.C_alloc hr _) hc h).mono ?_
  rintro e w1 ⟨rfl, hb⟩
  go_wp2_with fail
  refine ⟨rfl, _, results_tmp2 rfl _ _ _, rfl, ((Below.refl _ w).alloc (Nat.le_refl _) _).trans (hb.mono (by simp))⟩

set_option maxRecDepth 100000 in
set_option maxHeartbeats 4000000 in
theorem read_ok (k : Nat) (a0_0 a0_1 a0_2 a0_3 a0_4 a0_5 a0_6 a0_7 a0_8 a0_9 : Int) (A : Option Addr) (c : Nat) (l : List S42) (w : World) (hr : Kd.C k42 w A l.length l) (hc : l.length ≤ c)
    (h : exact_right.f k a0_0 a0_1 a0_2 a0_3 a0_4 a0_5 a0_6 a0_7 a0_8 a0_9 l = some 0) (hl : l.length ≤ 10000) (hs : ∀ r ∈ l, r.f1.size ≤ maxLen) :
    Calls Try.prog 32 #[.agg #[.int .i64 a0_0, .int .i64 a0_1, .int .i64 a0_2, .int .i64 a0_3, .int .i64 a0_4, .int .i64 a0_5, .int .i64 a0_6, .int .i64 a0_7, .int .i64 a0_8, .int .i64 a0_9], .slice A l.length c] w fun e w' =>
      ∃ b, e = .returned (.tuple #[.map (some b), .int .i64 0]) ∧ w.heap.size ≤ b ∧ Book w' b l ∧ Below w.heap.size w w' := by
  refine calls_of_wp Try.func32 rfl ?_
  simp only [Try.ntmps32, List.size_toArray, List.length_cons, List.length_nil, Nat.reduceAdd, Nat.reduceSub, Array.replicate_succ, Array.replicate_zero, List.push_toArray, List.append_toArray, List.nil_append, List.cons_append]
  go_wp2_with fail
  refine (exact_right.calls k a0_0 a0_1 a0_2 a0_3 a0_4 a0_5 a0_6 a0_7 a0_8 a0_9 A c l 0 _ (Kd.C_alloc hr _) hc h).mono ?_
  rintro e w1 ⟨rfl, hb⟩
  have hb1 : Below w.heap.size w w1 := ((Below.refl _ w).alloc (Nat.le_refl _) _).trans (hb.mono (by simp))
  have HB := Aside0.mk hb1
  clear hb hb1 h
  have HM := Aside0.mk (book_made w1)
  have HR := Aside0.mk hr
  clear hr
  have hmk : (Instr.makeMap 59 none).run Try.prog w1 = .ok (.map (some w1.heap.size)) (w1.alloc (.map #[] 0)) := by
    exact run_makeMap 59 w1
  go_wp2_with fail
  obtain ⟨W0, hW0⟩ : ∃ W0, w1.alloc (.map #[] 0) = W0 := ⟨_, rfl⟩
  rw [hW0] at HM ⊢
  have hb0 : Below w.heap.size w W0 := by rw [← hW0]; exact HB.out.alloc HB.out.size _
  have hbs := HB.out.size
  clear HB hmk hW0
  have HB0 := Aside0.mk hb0
  clear hb0
  go_loopw [19] (fun i wr => ∃ j : Nat, j ≤ l.length ∧ i = .int .i64 (j : Int) ∧ Aside0 (Book wr w1.heap.size (l.take j) ∧ Below w.heap.size w wr)) (fun i _ => l.length - (intOf i).toNat)
  case atStart => exact ⟨0, by omega, rfl, ⟨by simpa using HM.out, HB0.out⟩⟩
  case round =>
    obtain ⟨j, hj, rfl, BS⟩ := hrel
    clear HM HB0
    by_cases hlt : j < l.length
    · obtain ⟨ad, eA, c0, c1, c2, c3⟩ := at_T42 HR.out (j : Int) (by omega) (by omega)
      subst eA
      replace c0 := (BS.out.2.cell (World.block_lt_of_cell? w _ c0)).trans c0
      replace c1 := (BS.out.2.cell (World.block_lt_of_cell? w _ c1)).trans c1
      replace c2 := (BS.out.2.cell (World.block_lt_of_cell? w _ c2)).trans c2
      replace c3 := (BS.out.2.cell (World.block_lt_of_cell? w _ c3)).trans c3
      simp only [Int.toNat_natCast] at c0 c1 c2 c3
      have i0 : (0 : Int) ≤ (j : Int) := by omega
      have i1 : (j : Int) < (l.length : Int) := by omega
      have htk := take_rd l j hlt
      have HTK := Aside0.mk htk
      clear htk
      have hsz : (rd_T42 l (j : Int)).f1.size ≤ maxLen := hs _ (by
        unfold rd_T42
        rw [Int.toNat_natCast, List.getD_eq_getElem?_getD, List.getElem?_eq_getElem hlt]
        exact List.getElem_mem hlt)
      generalize rd_T42 l (j : Int) = x at c0 c1 c2 c3 HTK hsz
      go_wp2_with fail
      have hst : wr.heap.size < (wr.alloc (.cells #[.int .i64 x.f0, .string x.f1, .int .i64 x.f2, .int .i64 x.f3] 42 (0, 0))).heap.size := by simp
      refine (put_fn w1.heap.size (l.take j) x _ (BS.out.1.below ((Below.refl _ _).alloc (Nat.le_refl _) _)) (by simp; omega) hsz).mono ?_
      rintro e W2 ⟨rfl, hbk, hk2⟩
      have HN : Aside0 (Book W2 w1.heap.size (l.take (j + 1)) ∧ Below w.heap.size w W2) := ⟨by rw [HTK.out]; exact hbk, BS.out.2.trans (((Keeps.of_below ((Below.refl _ wr).alloc (Nat.le_refl _) _) (fun k => k = w1.heap.size)).trans hk2).below BS.out.2.size (fun i hi => by omega))⟩
      clear hbk hk2 BS
      go_wp2_with fail
      go_roundw
      case rel => exact ⟨j + 1, by omega, by go_num, HN⟩
      case measure => simp [intOf]; omega
    · obtain rfl : j = l.length := by omega
      go_wp2_with fail
      refine ⟨rfl, _, results_tmp2 rfl _ _ _, w1.heap.size, rfl, hbs, ?_, BS.out.2⟩
      have := BS.out.1
      rwa [List.take_length] at this
end Go.Proofs.Ytmlpahjmebfgbaa.Own
