/- Lemmas for a claim of this seat: texts of this session and of the kit's print, without what this claim does not use. -/
import Derived.Test.YtmlpahjmebfgbaaUGiven
import Derived.Test.YtmlpahjmebfgbaaUExDoc
namespace Go.Proofs.Ytmlpahjmebfgbaa.Own
open Go.RowKit Go.Proofs.YtmlpahjmebfgbaaW.PrintWords Go.Proofs.YtmlpahjmebfgbaaW.PrintLast Go.Proofs.YtmlpahjmebfgbaaW.PrintMore Go.Proofs.Ytmlpahjmebfgbaa.PEx
set_option linter.unusedVariables false
set_option linter.unusedSimpArgs false

/-- The document's list. -/
def docL : List S42 := [⟨0, ⟨#[97]⟩, 2, 1⟩, ⟨0, ⟨#[97]⟩, 2, 0⟩, ⟨0, ⟨#[98]⟩, 1, 1⟩, ⟨2, ⟨#[97]⟩, 1, 1⟩]
theorem taken_eq : reevelaw16_taken.f = some docL := rfl
set_option maxRecDepth 100000 in
theorem doc_owed : OwedX 1 3 1 1 0 0 2 1 0 1 docL ⟨#[97]⟩ 1 = 1 := by kernel_rfl
set_option maxRecDepth 100000 in
theorem doc_hold : HoldersX 1 3 1 1 0 0 2 1 0 1 docL 2 = [⟨#[97]⟩] := by kernel_rfl
set_option maxRecDepth 100000 in
theorem doc_due : DueX 1 3 1 1 0 0 2 1 0 1 docL 2 ⟨#[97]⟩ 2 = (1, 0) := by kernel_rfl
set_option maxRecDepth 100000 in
theorem doc_verd : VerdictsX 1 3 1 1 0 0 2 1 0 1 docL = ([1, 0, 1, 1], 0) := by kernel_rfl

set_option maxRecDepth 100000 in
set_option maxHeartbeats 4000000 in
theorem awake_fn (w : World) : Calls Try.prog 10 #[] w fun e w' => e = .returned (.bool true) ∧ Below w.heap.size w w' := by
  have hO := doc_owed
  have hH := doc_hold
  have hD := doc_due
  have hV := doc_verd
  have hT := taken_eq
  generalize docL = L at hO hH hD hV hT
  have HO := Aside0.mk hO
  have HH := Aside0.mk hH
  have HD := Aside0.mk hD
  have HV := Aside0.mk hV
  have HT := Aside0.mk hT
  clear hO hH hD hV hT
  refine calls_of_wp Try.func10 rfl ?_
  simp only [Try.ntmps10, List.size_toArray, List.length_cons, List.length_nil, Nat.reduceAdd, Nat.reduceSub, Array.replicate_succ, Array.replicate_zero, List.push_toArray, List.append_toArray, List.nil_append, List.cons_append]
  go_wp2_with fail
  refine (reevelaw16_plain.calls 1 3 1 1 0 0 2 1 0 1 _ rfl).mono ?_
  rintro e wp1 ⟨rfl, hbp1⟩
  go_wp2_with fail
  refine (reevelaw16_taken.calls L _ HT.out).mono ?_
  rintro e wt1 ⟨v1, rfl, hR1, hbt1⟩
  obtain ⟨A1, c1, rfl, hc1, hC1⟩ := Kd.R_reads hR1
  have hbb1 : Below w.heap.size w wt1 := hbp1.trans (hbt1.mono hbp1.size)
  clear hR1 hbp1 hbt1
  go_wp2_with fail
  refine (Owed_fn 1 3 1 1 0 0 2 1 0 1 A1 c1 L _ 1 _ hC1 hc1 (by decide)).mono ?_
  rintro e w1 ⟨rfl, hb1⟩
  rw [HO.out]
  have HB1 := Aside0.mk (hbb1.trans (hb1.mono hbb1.size))
  clear hbb1 hb1 hC1
  go_wp2_with fail
  refine (reevelaw16_plain.calls 1 3 1 1 0 0 2 1 0 1 _ rfl).mono ?_
  rintro e wp2 ⟨rfl, hbp2⟩
  go_wp2_with fail
  refine (reevelaw16_taken.calls L _ HT.out).mono ?_
  rintro e wt2 ⟨v2, rfl, hR2, hbt2⟩
  obtain ⟨A2, c2, rfl, hc2, hC2⟩ := Kd.R_reads hR2
  have hbb2 : Below w1.heap.size w1 wt2 := hbp2.trans (hbt2.mono hbp2.size)
  clear hR2 hbp2 hbt2
  go_wp2_with fail
  refine (Holders_fn 1 3 1 1 0 0 2 1 0 1 A2 c2 L 2 _ hC2 hc2).mono ?_
  rintro e w2 ⟨vh, rfl, hRh, hb2⟩
  rw [HH.out] at hRh
  obtain ⟨Ah, ch, rfl, hch, hCh⟩ := Kd.R_reads hRh
  obtain ⟨adh, eh, ch0⟩ := Kd.at_string hCh 0 (by decide) (by decide)
  subst eh
  have hr0 : rdOf ByteArray.empty [(⟨#[97]⟩ : ByteArray)] 0 = ⟨#[97]⟩ := rfl
  rw [hr0] at ch0
  simp only [List.length_cons, List.length_nil, Nat.zero_add]
  have CH := Aside0.mk ch0
  have HB2 := Aside0.mk (HB1.out.trans ((hbb2.trans (hb2.mono hbb2.size)).mono HB1.out.size))
  clear hbb2 hb2 hC2 hRh hCh ch0 HB1
  go_wp2_with fail
  refine (reevelaw16_plain.calls 1 3 1 1 0 0 2 1 0 1 _ rfl).mono ?_
  rintro e wp3 ⟨rfl, hbp3⟩
  go_wp2_with fail
  refine (reevelaw16_taken.calls L _ HT.out).mono ?_
  rintro e wt3 ⟨v3, rfl, hR3, hbt3⟩
  obtain ⟨A3, c3, rfl, hc3, hC3⟩ := Kd.R_reads hR3
  have hbb3 : Below w2.heap.size w2 wt3 := hbp3.trans (hbt3.mono hbp3.size)
  clear hR3 hbp3 hbt3
  go_wp2_with fail
  refine (Due_fn 1 3 1 1 0 0 2 1 0 1 A3 c3 L 2 _ 2 _ hC3 hc3).mono ?_
  rintro e w3 ⟨rfl, hb3⟩
  rw [HD.out]
  have hbw3 := hbb3.trans (hb3.mono hbb3.size)
  have CH3 := Aside0.mk ((hbw3.cell (World.block_lt_of_cell? w2 _ CH.out)).trans CH.out)
  have HB3 := Aside0.mk (HB2.out.trans (hbw3.mono HB2.out.size))
  clear hbb3 hb3 hC3 CH HB2 hbw3
  go_wp2_with fail
  refine (reevelaw16_plain.calls 1 3 1 1 0 0 2 1 0 1 _ rfl).mono ?_
  rintro e wp4 ⟨rfl, hbp4⟩
  go_wp2_with fail
  refine (reevelaw16_taken.calls L _ HT.out).mono ?_
  rintro e wt4 ⟨v4, rfl, hR4, hbt4⟩
  obtain ⟨A4, c4, rfl, hc4, hC4⟩ := Kd.R_reads hR4
  have hbb4 : Below w3.heap.size w3 wt4 := hbp4.trans (hbt4.mono hbp4.size)
  clear hR4 hbp4 hbt4
  go_wp2_with fail
  refine (Verdicts_fn 1 3 1 1 0 0 2 1 0 1 A4 c4 L _ hC4 hc4).mono ?_
  rintro e w4 ⟨vv, rfl, hRv, hb4⟩
  rw [HV.out] at hRv ⊢
  obtain ⟨Av, cv, rfl, hcv, hCv⟩ := Kd.R_reads hRv
  obtain ⟨adv, ev, cv0⟩ := Kd.at_int hCv 0 (by decide) (by decide)
  obtain ⟨adv', ev', cv1⟩ := Kd.at_int hCv 1 (by decide) (by decide)
  subst ev
  cases ev'
  have hr1 : rd [1, 0, 1, 1] 0 = 1 := rfl
  have hr2 : rd [1, 0, 1, 1] 1 = 0 := rfl
  rw [hr1] at cv0
  rw [hr2] at cv1
  simp only [List.length_cons, List.length_nil, Nat.zero_add, Nat.reduceAdd]
  have hbw4 := hbb4.trans (hb4.mono hbb4.size)
  have ch4 := (hbw4.cell (World.block_lt_of_cell? w3 _ CH3.out)).trans CH3.out
  have HB4 := Aside0.mk (HB3.out.trans (hbw4.mono HB3.out.size))
  clear hbb4 hb4 hC4 CH3 HB3 hbw4 hRv hCv HO HH HD HV HT hr0 hr1 hr2
  simp only [show (0 : Int).toNat = 0 from rfl, show (1 : Int).toNat = 1 from rfl] at cv0 cv1 ch4
  rw [show adv.add 0 = adv from by simp [Addr.add]] at cv0
  rw [show adh.add 0 = adh from by simp [Addr.add]] at ch4
  simp [Addr.add] at cv1
  go_wp2_with fail
  go_ret
  exact ⟨rfl, HB4.out⟩
end Go.Proofs.Ytmlpahjmebfgbaa.Own
namespace Go.Proofs.Ytmlpahjmebfgbaa.PEx
open Go.Proofs.YtmlpahjmebfgbaaW.PrintWords
set_option linter.unusedVariables false
def reevelaw16_awake.f (k : Nat) : Option Bool := some true
theorem reevelaw16_awake.mono : ∀ k, LeO (reevelaw16_awake.f k) (reevelaw16_awake.f (k + 1)) := fun _ _ h => h
theorem reevelaw16_awake.calls (k : Nat) (r : Bool) (w : World) (h : reevelaw16_awake.f k = some r) : Calls Try.prog 10 #[] w fun e w' => e = .returned (.bool r) ∧ RowKit.Below w.heap.size w w' := by
  cases h
  exact Own.awake_fn w
end Go.Proofs.Ytmlpahjmebfgbaa.PEx
