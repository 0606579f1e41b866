/- Layer 9: does it owe anything; its numbers; a debt at a later tick; a new ledger; its keys. -/
import Derived.Test.YtnodnpenlplleaaLedE
namespace Go.Proofs.Ytnodnpenlplleaa.Own
open Go.RowKit Go.Proofs.YtnodnpenlplleaaW.PrintWords Go.Proofs.YtnodnpenlplleaaW.PrintLast Go.Proofs.YtnodnpenlplleaaW.PrintMore
open Go.Maps (Keyed)
set_option linter.unusedVariables false
set_option linter.unusedSimpArgs false

theorem nums_len {p : Pol} {d : Debt} (hp : p.ok) (h : d.ok p) : d.nums.length ≤ 32 := by
  have hpi := Pol.is hp
  cases d with
  | lev n => simp [Debt.nums]
  | win g l =>
    obtain ⟨hk, h1, h2, h3, h4⟩ := h
    simp only [Debt.nums]
    omega

set_option maxRecDepth 100000 in
set_option maxHeartbeats 1000000 in
theorem owes_fn (w : World) (p : Pol) (v : Value) (d : Debt) (hp : p.ok) (hok : d.ok p) (hv : DebtV w v d) :
    Calls Try.prog 41 #[v] w fun e w' => e = .returned (.bool d.owes) ∧ Below w.heap.size w w' := by
  have hl := nums_len hp hok
  cases d with
  | lev n =>
    cases hv
    have m1 := fun k v w => (lev_numbers k v w).1
    have m2 := fun k v w => (lev_numbers k v w).2
    unfold Debt.owes
    simp only [Debt.nums] at hl ⊢
    generalize hany : ([n].any fun n => n != 0) = r
    have HANY := Aside0.mk hany
    clear hany hok hp
    go_enter Try.func41, Try.ntmps41
    go_wp2_with fail
    refine (levNums_fn n _).mono ?_
    rintro e w1 ⟨v, rfl, ⟨A, c, rfl, hc, hC, _⟩, hb⟩
    have HC := Aside0.mk hC
    have HB := Aside0.mk hb
    clear hC hb m1 m2
    go_wp2_with fail
    refine (ContainsFunc_fn _ _ some_looks A c [n] _ HC.out hl).mono ?_
    rintro e w2 ⟨rfl, hw⟩
    rw [HANY.out, hw]
    clear hw w2
    go_wp2_with fail
    go_ret
    exact ⟨rfl, HB.out⟩
  | win g l =>
    obtain ⟨s, rfl, A, c, rfl, hc, hC, _⟩ := hv
    have m1 := fun k v w => (win_numbers k v w).1
    have m2 := fun k v w => (win_numbers k v w).2
    unfold Debt.owes
    simp only [Debt.nums] at hl ⊢
    generalize hany : (l.any fun n => n != 0) = r
    have HANY := Aside0.mk hany
    have HC0 := Aside0.mk hC
    clear hany hok hp hC
    go_enter Try.func41, Try.ntmps41
    go_wp2_with fail
    refine (winNums_fn g _ _).mono ?_
    rintro e w1 ⟨rfl, hb⟩
    have HC := Aside0.mk (Kd.C_below HC0.out hb)
    have HB := Aside0.mk hb
    clear HC0 hb m1 m2
    go_wp2_with fail
    refine (ContainsFunc_fn _ _ some_looks A c l _ HC.out hl).mono ?_
    rintro e w2 ⟨rfl, hw⟩
    rw [HANY.out, hw]
    clear hw w2
    go_wp2_with fail
    go_ret
    exact ⟨rfl, HB.out⟩
end Go.Proofs.Ytnodnpenlplleaa.Own
/- Layer 9: a new ledger; its keys. -/
namespace Go.Proofs.Ytnodnpenlplleaa.Own
open Go.RowKit Go.Proofs.YtnodnpenlplleaaW.PrintWords Go.Proofs.YtnodnpenlplleaaW.PrintLast Go.Proofs.YtnodnpenlplleaaW.PrintMore
open Go.Maps (Keyed)
set_option linter.unusedVariables false
set_option linter.unusedSimpArgs false

theorem led_made {W : World} {sb mb : Nat} {p : Pol} {tick : Int} (hb : W.heap[sb]? = some (.cells (ledC p tick mb) 80 (0, 0))) (hm : W.heap[mb]? = some (.map #[] 0)) : Led W sb mb p tick [] := by
  have h0 := World.ownsMap_made W Try.prog 9 rawR
  refine ⟨hb, .map [], ?_, fun key => ⟨by simp [lookR, Maps.has], .nilIface, rfl, rfl⟩⟩
  obtain ⟨es, clock, h1, h2, h3, h4⟩ := h0
  rw [heap_alloc_new] at h1
  injection h1 with h1
  injection h1 with h1 h1'
  subst h1; subst h1'
  exact ⟨#[], 0, hm, h2, h3, h4⟩

/-- What New answers. -/
def NewPost (w : World) (p : Pol) (er : Int) (e : Ending) (w' : World) : Prop :=
  (er = 0 ∧ ∃ sb mb, e = .returned (.tuple #[.pointer (some ⟨sb, 0, none⟩), .int .i64 0]) ∧ w.heap.size ≤ sb ∧ w.heap.size ≤ mb ∧ Led w' sb mb p 0 [] ∧ Below w.heap.size w w') ∨
  (er ≠ 0 ∧ e = .returned (.tuple #[.pointer none, .int .i64 er]) ∧ Below w.heap.size w w')

set_option maxRecDepth 100000 in
set_option maxHeartbeats 1000000 in
theorem New_fn (w : World) (p : Pol) :
    Calls Try.prog 14 #[p.val] w (NewPost w p p.E) := by
  have HPR := Aside0.mk p.right
  have HLM := Aside0.mk (fun (W : World) (sb mb : Nat) (h1 : W.heap[sb]? = some (.cells (ledC p 0 mb) 80 (0, 0))) (h2 : W.heap[mb]? = some (.map #[] 0)) => led_made h1 h2)
  generalize p.E = er at HPR ⊢
  obtain ⟨kind, cap, num, den, width, count, keys, slots, every, seg⟩ := p
  simp only [Pol.val, Pol.cells, ledC] at HPR HLM ⊢
  have HG := Aside0.mk (heap_alloc_new w (.cells #[.int .i64 kind, .int .i64 cap, .int .i64 num, .int .i64 den, .int .i64 width, .int .i64 count, .int .i64 keys, .int .i64 slots, .int .i64 every, .int .i64 seg] 23 (0, 0)))
  have HB := Aside0.mk (show Below w.heap.size w (w.alloc (.cells #[.int .i64 kind, .int .i64 cap, .int .i64 num, .int .i64 den, .int .i64 width, .int .i64 count, .int .i64 keys, .int .i64 slots, .int .i64 every, .int .i64 seg] 23 (0, 0))) from (Below.refl _ w).alloc (Nat.le_refl _) _)
  go_enter Try.func14, Try.ntmps14
  go_wp2_with (first | ((with_reducible refine gload 23 rfl ?_); refine wpList_load_blk rfl 23 _ rfl w.heap.size _ 23 _ rfl HG.out _ Try.underlying23 rfl infoPol ?_) | fail)
  refine (HPR.out _).mono ?_
  rintro e w1 ⟨rfl, hb1⟩
  have HG1 := Aside0.mk ((hb1.block _ (by simp)).trans HG.out)
  have HB1 := Aside0.mk (HB.out.trans (hb1.mono (by simp)))
  clear hb1 HG HB HPR
  by_cases h0 : er = 0
  · subst h0
    have hmk : ∀ W : World, (Instr.makeMap 78 none).run Try.prog W = .ok (.map (some W.heap.size)) (W.alloc (.map #[] 0)) := fun W => run_makeMap 78 W
    go_wp2_with (first | ((with_reducible refine gload 23 rfl ?_); refine wpList_load_blk rfl 23 _ rfl w.heap.size _ 23 _ rfl HG1.out _ Try.underlying23 rfl infoPol ?_) | fail)
    obtain ⟨W2, hW2⟩ : ∃ W2, (w1.alloc (.map #[] 0)).alloc (.cells #[.int .i64 kind, .int .i64 cap, .int .i64 num, .int .i64 den, .int .i64 width, .int .i64 count, .int .i64 keys, .int .i64 slots, .int .i64 every, .int .i64 seg, .int .i64 0, .map (some w1.heap.size)] 80 (0, 0)) = W2 := ⟨_, rfl⟩
    have hb2 : Below w1.heap.size w1 W2 := by rw [← hW2]; exact ((Below.refl _ w1).alloc (Nat.le_refl _) _).alloc (by simp) _
    have hx2 : W2.heap[w1.heap.size + 1]? = some (.cells #[.int .i64 kind, .int .i64 cap, .int .i64 num, .int .i64 den, .int .i64 width, .int .i64 count, .int .i64 keys, .int .i64 slots, .int .i64 every, .int .i64 seg, .int .i64 0, .map (some w1.heap.size)] 80 (0, 0)) := by
      rw [← hW2]
      have h := heap_alloc_new (w1.alloc (.map #[] 0)) (.cells #[.int .i64 kind, .int .i64 cap, .int .i64 num, .int .i64 den, .int .i64 width, .int .i64 count, .int .i64 keys, .int .i64 slots, .int .i64 every, .int .i64 seg, .int .i64 0, .map (some w1.heap.size)] 80 (0, 0))
      rw [World.size_alloc] at h
      exact h
    have hm2 : W2.heap[w1.heap.size]? = some (.map #[] 0) := by
      rw [← hW2]
      exact (((Below.refl (w1.heap.size + 1) _).alloc (by simp) _).block _ (by omega)).trans (heap_alloc_new w1 _)
    refine ⟨rfl, _, results_tmp2 rfl _ _ _, Or.inl ⟨rfl, w1.heap.size + 1, w1.heap.size, rfl, by have := HB1.out.size; omega, HB1.out.size, ?_, ?_⟩⟩
    · first | (rw [hW2]; exact HLM.out W2 _ _ hx2 hm2) | exact HLM.out W2 _ _ hx2 hm2
    · first | (rw [hW2]; exact HB1.out.trans (hb2.mono HB1.out.size)) | exact HB1.out.trans (hb2.mono HB1.out.size)
  · go_wp2_with fail
    exact ⟨rfl, _, results_tmp2 rfl _ _ _, Or.inr ⟨h0, rfl, HB1.out⟩⟩

theorem strs_of {w : World} {base : Nat} {v : Value} {m : List (List UInt8)} (h : w.ownsRow base 9 1 v m.length (m.map encStr)) (ok : Nat → Prop) (hok : ∀ k, v.ownBlock = some k → ok k) : Kd.R Kd.string 9 w base ok v (m.map fun l => (⟨l.toArray⟩ : ByteArray)) := by
  have e : m.map encStr = encs Value.string (m.map fun l => (⟨l.toArray⟩ : ByteArray)) := by
    simp [encs, encStr, Function.comp_def]
  rw [e] at h
  exact Kd.R_of_own (enc := Value.string) (h1 := fun _ => rfl) (by rw [List.length_map]; exact h) hok

set_option maxRecDepth 100000 in
set_option maxHeartbeats 1000000 in
theorem Keys_fn (w : World) (sb mb : Nat) (p : Pol) (tick : Int) (rows : Rws) (h : Led w sb mb p tick rows) (hs : sortedR rows) (hlen : rows.length ≤ 100000) :
    Calls Try.prog 22 #[.pointer (some ⟨sb, 0, none⟩)] w fun e w' => ∃ v, e = .returned v ∧ Kd.R Kd.string 9 w' w.heap.size (fun _ => True) v (keysR rows) ∧ Below w.heap.size w w' := by
  have c0 : w.cell? ⟨sb, 11, none⟩ = some (.map (some mb)) := by rw [cell_of_row w _ 11 _ _ _ h.blk]; rfl
  obtain ⟨D, hown, hD, hsz⟩ := h.size hs
  have HK := Aside0.mk (fun (ss : List (List UInt8)) (hp : ss.Perm (Go.strKeys D)) => keys_of_map hown (look_keys hD) hs hp)
  have HS := Aside0.mk (sh_Sorted_Keys mb rows.length D rawR w hown (by simp only [maxLen]; omega) (by omega))
  clear h hD hown hs
  go_enter Try.func22, Try.ntmps22
  go_wp2_with fail
  refine (callsIn_wide.1 (sh_maps_Keys (some mb) _)).mono ?_
  rintro e w1 ⟨rfl, rfl⟩
  go_wp2_with fail
  refine (callsIn_wide.1 HS.out).mono ?_
  rintro e w2 ⟨v, ss, rfl, hperm, hrow, _, hb⟩
  have hrow' : w2.ownsRow (w.alloc (.cells #[.map (some mb)] 78)).heap.size 9 1 v (ss.mergeSort (fun x y => decide (x ≤ y))).length ((ss.mergeSort (fun x y => decide (x ≤ y))).map encStr) := by rw [List.length_mergeSort]; exact hrow
  have hR := strs_of hrow' (fun _ => True) (fun _ _ => trivial)
  rw [HK.out ss hperm] at hR
  have HR := Aside0.mk (Kd.R_lower hR (show w.heap.size ≤ (w.alloc (.cells #[.map (some mb)] 78)).heap.size from by simp))
  have HB := Aside0.mk (((Below.refl _ w).alloc (Nat.le_refl _) (.cells #[.map (some mb)] 78)).trans (hb.mono (by simp)))
  clear hrow hrow' hR hb HK HS hperm
  go_wp2_with fail
  go_ret
  exact ⟨_, rfl, HR.out, HB.out⟩
end Go.Proofs.Ytnodnpenlplleaa.Own
