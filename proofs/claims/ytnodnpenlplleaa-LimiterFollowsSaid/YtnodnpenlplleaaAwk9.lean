/- Layer 9: the document's bucket. -/
import Derived.Test.YtnodnpenlplleaaBytB
import Derived.Test.YtnodnpenlplleaaSt
namespace Go.Proofs.Ytnodnpenlplleaa.Own
open Go.RowKit Go.Proofs.YtnodnpenlplleaaW.PrintWords Go.Proofs.YtnodnpenlplleaaW.PrintLast Go.Proofs.YtnodnpenlplleaaW.PrintMore
set_option linter.unusedVariables false
set_option linter.unusedSimpArgs false

def plP : Pol := ⟨1, 10, 1, 2, 0, 0, 5, 3, 4, 6⟩
theorem plE : plP.E = 0 := by decide +kernel
set_option maxRecDepth 100000 in
theorem Plain_fn (w : World) : Calls Try.prog 37 #[.int .i64 1] w fun e w' => e = .returned plP.val ∧ Below w.heap.size w w' := by
  have HB := Aside0.mk (show Below w.heap.size w (w.alloc (.cells #[.int .i64 1, .int .i64 10, .int .i64 1, .int .i64 2, .int .i64 0, .int .i64 0, .int .i64 5, .int .i64 3, .int .i64 4, .int .i64 6] 23 (0, 0))) from (Below.refl _ w).alloc (Nat.le_refl _) _)
  go_enter Try.func37, Try.ntmps37
  go_wp2_with fail
  exact ⟨rfl, _, results_cell rfl _ _ w.heap.size 23 _ (0, 0) _ rfl (heap_alloc_new w (.cells #[.int .i64 1, .int .i64 10, .int .i64 1, .int .i64 2, .int .i64 0, .int .i64 0, .int .i64 5, .int .i64 3, .int .i64 4, .int .i64 6] 23 (0, 0))) Try.underlying23 rfl infoPol, rfl, HB.out⟩

theorem addr_zero (a : Addr) : a.add 0 = a := by unfold Addr.add; split <;> simp_all
def a9a : Rws := chargeR plP 0 [] kB 3
def a9b : Rws := chargeR plP 0 a9a kA 1
def a9c : Rws := moveR plP 0 2 a9b
theorem a9rows : a9c = [(kB, .lev 4)] ∧ chargeE kB 3 = 0 ∧ chargeE kA 1 = 0 ∧ moveE 0 2 = 0 ∧ a9a.length ≤ 100000 ∧ a9b.length ≤ 100000 := by decide +kernel
theorem a9bytes : bytesR [(kB, .lev 4)] = [1, 1, 98, 4] := by
  have h1 : numB 1 = [1] := numN_small (by decide)
  have h4 : numB 4 = [4] := numN_small (by decide)
  have hb : bytesOf kB = [98] := by decide +kernel
  simp [bytesR, rowsB, rowB, numsB, Debt.nums, hb, h4, show (kB.size : Int) = 1 from rfl, h1]

set_option maxRecDepth 100000 in
set_option maxHeartbeats 1000000 in
theorem awake9_fn (w : World) : Calls Try.prog 13 #[] w fun e w' => e = .returned (.bool true) ∧ Below w.heap.size w w' := by
  have HNEW := Aside0.mk (fun w' => New_fn w' plP)
  rw [plE] at HNEW
  have o0 : OkR plP 0 [] := new_ok plE
  have o1 : OkR plP 0 a9a := charge_ok o0 kB 3
  have o2 : OkR plP 0 a9b := charge_ok o1 kA 1
  have o3 : OkR plP 2 a9c := move_ok o2 (by decide) (by decide)
  obtain ⟨q1, q2, q3, q4, q5, q6⟩ := a9rows
  have HA := Aside0.mk (fun w' sb mb (h : Led w' sb mb plP 0 []) => Charge_fn w' sb mb plP 0 [] kB 3 h o0 (by decide) (by simp [maxLen]))
  have HB := Aside0.mk (fun w' sb mb (h : Led w' sb mb plP 0 a9a) => Charge_fn w' sb mb plP 0 a9a kA 1 h o1 (by decide) (by simp only [maxLen]; omega))
  have HM := Aside0.mk (fun w' sb mb (h : Led w' sb mb plP 0 a9b) => MoveL_fn w' sb mb plP 0 2 a9b h o2 (by simp only [maxLen]; omega))
  have e2 : tickM 0 2 = 2 := by decide
  have e3 : rowsM plP 0 a9b 2 = a9c := by unfold rowsM; rw [q4, if_pos rfl]; rfl
  rw [q2] at HA; rw [q3] at HB; rw [q4, e2, e3] at HM
  rw [show chargeR plP 0 [] kB 3 = a9a from rfl] at HA
  rw [show chargeR plP 0 a9a kA 1 = a9b from rfl] at HB
  have HO3 := Aside0.mk o3
  have HQ := Aside0.mk q1
  clear o0 o1 o2 o3 q1 q2 q3 q4 q5 q6 e2 e3
  go_enter Try.func13, Try.ntmps13
  go_wp2_with fail
  refine (Plain_fn _).mono ?_
  rintro e w0 ⟨rfl, hb0⟩
  have HB0 := Aside0.mk hb0
  clear hb0
  go_wp2_with fail
  refine (HNEW.out _).mono ?_
  rintro e w1 (⟨_, sb, mb, rfl, h1, h2, hl, hb⟩ | ⟨h0, _⟩)
  case inr => exact absurd rfl h0
  have HL1 := Aside0.mk hl
  have hs := HB0.out.size
  have HN := Aside0.mk (show ∀ i, (i = sb ∨ i = mb) → w.heap.size ≤ i from fun i hi => by rcases hi with rfl | rfl <;> omega)
  have HB1 := Aside0.mk (HB0.out.trans (hb.mono hs))
  clear h1 h2 hl hb HNEW HB0 hs
  go_wp2_with fail
  refine (HA.out _ _ _ HL1.out).mono ?_
  rintro e w2 ⟨rfl, hl, hk⟩
  have HL2 := Aside0.mk hl
  have HB2 := Aside0.mk (HB1.out.trans (hk.below HB1.out.size HN.out))
  clear hl hk HL1 HB1 HA
  go_wp2_with fail
  refine (HB.out _ _ _ HL2.out).mono ?_
  rintro e w3 ⟨rfl, hl, hk⟩
  have HL3 := Aside0.mk hl
  have HB3 := Aside0.mk (HB2.out.trans (hk.below HB2.out.size HN.out))
  clear hl hk HL2 HB2 HB
  go_wp2_with fail
  refine (HM.out _ _ _ HL3.out).mono ?_
  rintro e w4 ⟨rfl, hl, hk⟩
  rw [HQ.out] at hl
  have HL4 := Aside0.mk hl
  have HB4 := Aside0.mk (HB3.out.trans (hk.below HB3.out.size HN.out))
  have ho3 := HO3.out
  rw [HQ.out] at ho3
  have HO4 := Aside0.mk ho3
  clear hl hk HL3 HB3 HM ho3 HO3 HQ
  go_wp2_with fail
  refine (Keys_fn _ sb mb plP 2 _ HL4.out HO4.out.sorted (by decide)).mono ?_
  rintro e w5 ⟨vk, rfl, hRk, hb⟩
  obtain ⟨A8, c8, e8, hc8, hC8⟩ := Kd.R_reads hRk
  subst e8
  have HC8 := Aside0.mk hC8
  have HL5 := Aside0.mk (HL4.out.below hb)
  have HB5 := Aside0.mk (HB4.out.trans (hb.mono HB4.out.size))
  clear hRk hC8 hb HL4 HB4 hc8
  go_wp2_with fail
  refine (Bytes_fn _ sb mb plP 2 _ HL5.out HO4.out (by decide)).mono ?_
  rintro e w6 ⟨vb, rfl, hRb, hb⟩
  rw [a9bytes] at hRb
  obtain ⟨A9, c9, e9, hc9, hC9⟩ := Kd.R_reads hRb
  subst e9
  obtain ⟨ad8, eA8, d0⟩ := Kd.at_string (Kd.C_below HC8.out hb) 0 (by decide) (by decide)
  obtain ⟨ad9, eA9, d1⟩ := Kd.at_int hC9 3 (by decide) (by decide)
  subst eA8
  subst eA9
  have r0 : rdOf ByteArray.empty (keysR [(kB, Debt.lev 4)]) 0 = kB := by decide +kernel
  have r1 : rd [1, 1, 98, 4] 3 = 4 := by decide
  rw [r0] at d0
  rw [r1] at d1
  have l0 : (keysR [(kB, Debt.lev 4)]).length = 1 := rfl
  have l1 : ([1, 1, 98, 4] : List Int).length = 4 := rfl
  rw [l0, l1]
  have HL6 := Aside0.mk (HL5.out.below hb)
  have HB6 := Aside0.mk (HB5.out.trans (hb.mono HB5.out.size))
  clear hRb hC9 hb HL5 HB5 hc9 HC8 r0 r1 l0 l1
  replace d0 : w6.cell? (ad8.add 0) = some (.string ⟨#[98]⟩) := d0
  replace d1 : w6.cell? (ad9.add 3) = some (.int .u8 4) := d1
  have e0 : ad8.add 0 = ad8 := addr_zero ad8
  have d2 : w6.cell? ad8 = some (.string ⟨#[98]⟩) := by rw [e0] at d0; exact d0
  have e3 : ad9.add 3 = ⟨ad9.block, ad9.off + 3, none⟩ := by have := add_field ad9 0 3 (by decide); rw [addr_zero] at this; exact this
  rw [e3] at d1
  clear e0 e3
  go_wp2_with fail
  refine (Now_fn _ sb mb plP 2 _ HL6.out).mono ?_
  rintro e w7 ⟨rfl, hw⟩
  rw [hw]
  clear hw
  go_wp2_with fail
  go_ret
  exact ⟨rfl, HB6.out⟩
end Go.Proofs.Ytnodnpenlplleaa.Own
