/- policy.Right answers OK (0) or ErrPolicy (40), as the plain test polB says; nothing that was there has turned. -/
import Derived.Test.YtnodnpenlplleaaPol
import Derived.Deep.DeepMust
namespace Go.Proofs.Ytnodnpenlplleaa.Own
open Go.RowKit Go.Proofs.YtnodnpenlplleaaW.PrintWords Go.Proofs.YtnodnpenlplleaaW.PrintLast
set_option linter.unusedVariables false
set_option linter.unusedSimpArgs false

def polB (kind cap num den width count keys slots every seg : Int) : Bool :=
  decide (((kind = 1 ∧ width = 0 ∧ count = 0 ∧ 1 ≤ num ∧ num ≤ 65536 ∧ 1 ≤ den ∧ den ≤ 65536) ∨ (kind = 2 ∧ num = 0 ∧ den = 0 ∧ 1 ≤ width ∧ width ≤ 1048576 ∧ 1 ≤ count ∧ count ≤ 32)) ∧
    1 ≤ cap ∧ cap ≤ 1048576 ∧ 1 ≤ keys ∧ keys ≤ 1000 ∧ 1 ≤ slots ∧ slots ≤ 64 ∧ 0 ≤ every ∧ every ≤ 1000 ∧ 1 ≤ seg ∧ seg ≤ 1000)

def polE (kind cap num den width count keys slots every seg : Int) : Int := if polB kind cap num den width count keys slots every seg = true then 0 else 40
theorem polE_bad {kind cap num den width count keys slots every seg : Int} (h : ¬ polB kind cap num den width count keys slots every seg = true) : polE kind cap num den width count keys slots every seg = 40 := by rw [polE, if_neg h]
theorem polE_ok {kind cap num den width count keys slots every seg : Int} (h : polB kind cap num den width count keys slots every seg = true) : polE kind cap num den width count keys slots every seg = 0 := by rw [polE, if_pos h]

theorem info_field : (Try.prog.info? 122).map (·.size) = some 3 := by kernel_rfl

/-- The fields of a policy in the order of their bytes: their places, bounds. -/
def foL (kind : Int) : List Nat := [0, 1, if kind = 1 then 2 else 4, if kind = 1 then 3 else 5, 6, 7, 8, 9]
def loL : List Int := [1, 1, 1, 1, 1, 1, 0, 1]
def hiL (kind : Int) : List Int := [2, 1048576, if kind = 1 then 65536 else 1048576, if kind = 1 then 65536 else 32, 1000, 64, 1000, 1000]
def fieldsA (b : Nat) (kind : Int) : Array Value := if kind = 1 then #[.pointer (some ⟨b, 0, none⟩), .int .i64 1, .int .i64 2, .pointer (some ⟨b, 1, none⟩), .int .i64 1, .int .i64 1048576, .pointer (some ⟨b, 2, none⟩), .int .i64 1, .int .i64 65536, .pointer (some ⟨b, 3, none⟩), .int .i64 1, .int .i64 65536, .pointer (some ⟨b, 6, none⟩), .int .i64 1, .int .i64 1000, .pointer (some ⟨b, 7, none⟩), .int .i64 1, .int .i64 64, .pointer (some ⟨b, 8, none⟩), .int .i64 0, .int .i64 1000, .pointer (some ⟨b, 9, none⟩), .int .i64 1, .int .i64 1000] else if kind = 2 then #[.pointer (some ⟨b, 0, none⟩), .int .i64 1, .int .i64 2, .pointer (some ⟨b, 1, none⟩), .int .i64 1, .int .i64 1048576, .pointer (some ⟨b, 4, none⟩), .int .i64 1, .int .i64 1048576, .pointer (some ⟨b, 5, none⟩), .int .i64 1, .int .i64 32, .pointer (some ⟨b, 6, none⟩), .int .i64 1, .int .i64 1000, .pointer (some ⟨b, 7, none⟩), .int .i64 1, .int .i64 64, .pointer (some ⟨b, 8, none⟩), .int .i64 0, .int .i64 1000, .pointer (some ⟨b, 9, none⟩), .int .i64 1, .int .i64 1000] else #[.pointer (some ⟨b, 0, none⟩), .int .i64 1, .int .i64 2, .pointer (some ⟨b, 1, none⟩), .int .i64 1, .int .i64 1048576, .pointer none, .int .i64 0, .int .i64 0, .pointer none, .int .i64 0, .int .i64 0, .pointer (some ⟨b, 6, none⟩), .int .i64 1, .int .i64 1000, .pointer (some ⟨b, 7, none⟩), .int .i64 1, .int .i64 64, .pointer (some ⟨b, 8, none⟩), .int .i64 0, .int .i64 1000, .pointer (some ⟨b, 9, none⟩), .int .i64 1, .int .i64 1000]

set_option maxRecDepth 100000 in
set_option maxHeartbeats 4000000 in
theorem right_other (kind cap num den width count keys slots every seg : Int) (w : World) (k1 : (kind == 1) = false) (k2 : (kind == 2) = false) :
    Calls Try.prog 38 #[.agg #[.int .i64 kind, .int .i64 cap, .int .i64 num, .int .i64 den, .int .i64 width, .int .i64 count, .int .i64 keys, .int .i64 slots, .int .i64 every, .int .i64 seg]] w fun e w' => e = .returned (.int .i64 40) ∧ Below w.heap.size w w' := by
  have hb0 := heap_alloc_new w (.cells #[.int .i64 kind, .int .i64 cap, .int .i64 num, .int .i64 den, .int .i64 width, .int .i64 count, .int .i64 keys, .int .i64 slots, .int .i64 every, .int .i64 seg] 23 (0, 0))
  go_enter Try.func38, Try.ntmps38
  go_wp2_with fail
  refine (fields_other w.heap.size kind cap num den width count keys slots every seg _ k1 k2 hb0).mono ?_
  rintro e w1 ⟨rfl, hB⟩
  have hB' : Below w.heap.size w w1 := ((Below.refl _ w).alloc (Nat.le_refl _) _).trans (hB.mono (by simp))
  have hb1 := (hB.block w.heap.size (by simp)).trans hb0
  have hs1 : w.heap.size < w1.heap.size := by have := hB.size; simp at this; omega
  clear hB hb0
  go_wp2_with ((with_reducible refine gstore 123 rfl ?_); refine wpList_store_blk rfl 123 _ _ rfl w1.heap.size 0 #[.pointer none, .int .i64 0, .int .i64 0, .pointer none, .int .i64 0, .int .i64 0, .pointer none, .int .i64 0, .int .i64 0, .pointer none, .int .i64 0, .int .i64 0, .pointer none, .int .i64 0, .int .i64 0, .pointer none, .int .i64 0, .int .i64 0, .pointer none, .int .i64 0, .int .i64 0, .pointer none, .int .i64 0, .int .i64 0] 123 #[.pointer (some ⟨w.heap.size, 0, none⟩), .int .i64 1, .int .i64 2, .pointer (some ⟨w.heap.size, 1, none⟩), .int .i64 1, .int .i64 1048576, .pointer none, .int .i64 0, .int .i64 0, .pointer none, .int .i64 0, .int .i64 0, .pointer (some ⟨w.heap.size, 6, none⟩), .int .i64 1, .int .i64 1000, .pointer (some ⟨w.heap.size, 7, none⟩), .int .i64 1, .int .i64 64, .pointer (some ⟨w.heap.size, 8, none⟩), .int .i64 0, .int .i64 1000, .pointer (some ⟨w.heap.size, 9, none⟩), .int .i64 1, .int .i64 1000] rfl rfl (heap_alloc_new w1 _) (by simp) (by kernel_rfl) (by simp [Value.oneCell']) ?_; intro w2 hg2 hO2)
  go_ret
  exact ⟨rfl, hB'.trans ((((Below.refl w1.heap.size w1).alloc (Nat.le_refl _) _).trans (hO2.below (Nat.le_refl _))).mono (Nat.le_of_lt hs1))⟩
set_option maxRecDepth 100000 in
set_option maxHeartbeats 4000000 in
theorem right_bucket_a (cap num den width count keys slots every seg : Int) (w : World) (hz1 : (width != 0) = true) :
    Calls Try.prog 38 #[.agg #[.int .i64 1, .int .i64 cap, .int .i64 num, .int .i64 den, .int .i64 width, .int .i64 count, .int .i64 keys, .int .i64 slots, .int .i64 every, .int .i64 seg]] w fun e w' => e = .returned (.int .i64 40) ∧ Below w.heap.size w w' := by
  have hb0 := heap_alloc_new w (.cells #[.int .i64 1, .int .i64 cap, .int .i64 num, .int .i64 den, .int .i64 width, .int .i64 count, .int .i64 keys, .int .i64 slots, .int .i64 every, .int .i64 seg] 23 (0, 0))

  go_enter Try.func38, Try.ntmps38
  go_wp2_with fail
  refine (fields_bucket w.heap.size cap num den width count keys slots every seg _ hb0).mono ?_
  rintro e w1 ⟨rfl, hB⟩
  have hB' : Below w.heap.size w w1 := ((Below.refl _ w).alloc (Nat.le_refl _) _).trans (hB.mono (by simp))
  have hb1 := (hB.block w.heap.size (by simp)).trans hb0
  have hs1 : w.heap.size < w1.heap.size := by have := hB.size; simp at this; omega
  clear hB hb0
  go_wp2_with ((with_reducible refine gstore 123 rfl ?_); refine wpList_store_blk rfl 123 _ _ rfl w1.heap.size 0 #[.pointer none, .int .i64 0, .int .i64 0, .pointer none, .int .i64 0, .int .i64 0, .pointer none, .int .i64 0, .int .i64 0, .pointer none, .int .i64 0, .int .i64 0, .pointer none, .int .i64 0, .int .i64 0, .pointer none, .int .i64 0, .int .i64 0, .pointer none, .int .i64 0, .int .i64 0, .pointer none, .int .i64 0, .int .i64 0] 123 #[.pointer (some ⟨w.heap.size, 0, none⟩), .int .i64 1, .int .i64 2, .pointer (some ⟨w.heap.size, 1, none⟩), .int .i64 1, .int .i64 1048576, .pointer (some ⟨w.heap.size, 2, none⟩), .int .i64 1, .int .i64 65536, .pointer (some ⟨w.heap.size, 3, none⟩), .int .i64 1, .int .i64 65536, .pointer (some ⟨w.heap.size, 6, none⟩), .int .i64 1, .int .i64 1000, .pointer (some ⟨w.heap.size, 7, none⟩), .int .i64 1, .int .i64 64, .pointer (some ⟨w.heap.size, 8, none⟩), .int .i64 0, .int .i64 1000, .pointer (some ⟨w.heap.size, 9, none⟩), .int .i64 1, .int .i64 1000] rfl rfl (heap_alloc_new w1 _) (by simp) (by kernel_rfl) (by simp [Value.oneCell']) ?_; intro w2 hg2 hO2; have hg3 : w2.heap[w1.heap.size]? = some (.cells #[.pointer (some ⟨w.heap.size, 0, none⟩), .int .i64 1, .int .i64 2, .pointer (some ⟨w.heap.size, 1, none⟩), .int .i64 1, .int .i64 1048576, .pointer (some ⟨w.heap.size, 2, none⟩), .int .i64 1, .int .i64 65536, .pointer (some ⟨w.heap.size, 3, none⟩), .int .i64 1, .int .i64 65536, .pointer (some ⟨w.heap.size, 6, none⟩), .int .i64 1, .int .i64 1000, .pointer (some ⟨w.heap.size, 7, none⟩), .int .i64 1, .int .i64 64, .pointer (some ⟨w.heap.size, 8, none⟩), .int .i64 0, .int .i64 1000, .pointer (some ⟨w.heap.size, 9, none⟩), .int .i64 1, .int .i64 1000] 123 (0, 0)) := (hg2.trans (by rw [splice_whole (by rfl)])); have hb3 : w2.heap[w.heap.size]? = some (.cells #[.int .i64 1, .int .i64 cap, .int .i64 num, .int .i64 den, .int .i64 width, .int .i64 count, .int .i64 keys, .int .i64 slots, .int .i64 every, .int .i64 seg] 23 (0, 0)) := (hO2.other _ (by omega)).trans ((Below.heap_alloc w1 _ _ hs1).trans hb1); have hB3 : Below w.heap.size w w2 := hB'.trans ((((Below.refl w1.heap.size w1).alloc (Nat.le_refl _) _).trans (hO2.below (Nat.le_refl _))).mono (Nat.le_of_lt hs1)); have hs3 : w.heap.size < w2.heap.size := (by have := hO2.size; simp at this; omega); clear hg2 hO2 hb1 hs1 hB'; have c0 : w2.cell? ⟨w.heap.size, 0, none⟩ = some (.int .i64 1) := (by rw [cell_of_row w2 w.heap.size 0 _ _ _ hb3]; rfl); have c2 : w2.cell? ⟨w.heap.size, 2, none⟩ = some (.int .i64 num) := (by rw [cell_of_row w2 w.heap.size 2 _ _ _ hb3]; rfl); have c3 : w2.cell? ⟨w.heap.size, 3, none⟩ = some (.int .i64 den) := (by rw [cell_of_row w2 w.heap.size 3 _ _ _ hb3]; rfl); have c4 : w2.cell? ⟨w.heap.size, 4, none⟩ = some (.int .i64 width) := (by rw [cell_of_row w2 w.heap.size 4 _ _ _ hb3]; rfl); have c5 : w2.cell? ⟨w.heap.size, 5, none⟩ = some (.int .i64 count) := (by rw [cell_of_row w2 w.heap.size 5 _ _ _ hb3]; rfl); have HG3 := Aside0.mk hg3; have HB3 := Aside0.mk hb3; clear hg3 hb3)
  go_ret
  exact ⟨rfl, hB3⟩
set_option maxRecDepth 100000 in
set_option maxHeartbeats 4000000 in
theorem right_bucket_b (cap num den width count keys slots every seg : Int) (w : World) (hz1 : (width != 0) = false) (hz2 : (count != 0) = true) :
    Calls Try.prog 38 #[.agg #[.int .i64 1, .int .i64 cap, .int .i64 num, .int .i64 den, .int .i64 width, .int .i64 count, .int .i64 keys, .int .i64 slots, .int .i64 every, .int .i64 seg]] w fun e w' => e = .returned (.int .i64 40) ∧ Below w.heap.size w w' := by
  have hb0 := heap_alloc_new w (.cells #[.int .i64 1, .int .i64 cap, .int .i64 num, .int .i64 den, .int .i64 width, .int .i64 count, .int .i64 keys, .int .i64 slots, .int .i64 every, .int .i64 seg] 23 (0, 0))

  go_enter Try.func38, Try.ntmps38
  go_wp2_with fail
  refine (fields_bucket w.heap.size cap num den width count keys slots every seg _ hb0).mono ?_
  rintro e w1 ⟨rfl, hB⟩
  have hB' : Below w.heap.size w w1 := ((Below.refl _ w).alloc (Nat.le_refl _) _).trans (hB.mono (by simp))
  have hb1 := (hB.block w.heap.size (by simp)).trans hb0
  have hs1 : w.heap.size < w1.heap.size := by have := hB.size; simp at this; omega
  clear hB hb0
  go_wp2_with ((with_reducible refine gstore 123 rfl ?_); refine wpList_store_blk rfl 123 _ _ rfl w1.heap.size 0 #[.pointer none, .int .i64 0, .int .i64 0, .pointer none, .int .i64 0, .int .i64 0, .pointer none, .int .i64 0, .int .i64 0, .pointer none, .int .i64 0, .int .i64 0, .pointer none, .int .i64 0, .int .i64 0, .pointer none, .int .i64 0, .int .i64 0, .pointer none, .int .i64 0, .int .i64 0, .pointer none, .int .i64 0, .int .i64 0] 123 #[.pointer (some ⟨w.heap.size, 0, none⟩), .int .i64 1, .int .i64 2, .pointer (some ⟨w.heap.size, 1, none⟩), .int .i64 1, .int .i64 1048576, .pointer (some ⟨w.heap.size, 2, none⟩), .int .i64 1, .int .i64 65536, .pointer (some ⟨w.heap.size, 3, none⟩), .int .i64 1, .int .i64 65536, .pointer (some ⟨w.heap.size, 6, none⟩), .int .i64 1, .int .i64 1000, .pointer (some ⟨w.heap.size, 7, none⟩), .int .i64 1, .int .i64 64, .pointer (some ⟨w.heap.size, 8, none⟩), .int .i64 0, .int .i64 1000, .pointer (some ⟨w.heap.size, 9, none⟩), .int .i64 1, .int .i64 1000] rfl rfl (heap_alloc_new w1 _) (by simp) (by kernel_rfl) (by simp [Value.oneCell']) ?_; intro w2 hg2 hO2; have hg3 : w2.heap[w1.heap.size]? = some (.cells #[.pointer (some ⟨w.heap.size, 0, none⟩), .int .i64 1, .int .i64 2, .pointer (some ⟨w.heap.size, 1, none⟩), .int .i64 1, .int .i64 1048576, .pointer (some ⟨w.heap.size, 2, none⟩), .int .i64 1, .int .i64 65536, .pointer (some ⟨w.heap.size, 3, none⟩), .int .i64 1, .int .i64 65536, .pointer (some ⟨w.heap.size, 6, none⟩), .int .i64 1, .int .i64 1000, .pointer (some ⟨w.heap.size, 7, none⟩), .int .i64 1, .int .i64 64, .pointer (some ⟨w.heap.size, 8, none⟩), .int .i64 0, .int .i64 1000, .pointer (some ⟨w.heap.size, 9, none⟩), .int .i64 1, .int .i64 1000] 123 (0, 0)) := (hg2.trans (by rw [splice_whole (by rfl)])); have hb3 : w2.heap[w.heap.size]? = some (.cells #[.int .i64 1, .int .i64 cap, .int .i64 num, .int .i64 den, .int .i64 width, .int .i64 count, .int .i64 keys, .int .i64 slots, .int .i64 every, .int .i64 seg] 23 (0, 0)) := (hO2.other _ (by omega)).trans ((Below.heap_alloc w1 _ _ hs1).trans hb1); have hB3 : Below w.heap.size w w2 := hB'.trans ((((Below.refl w1.heap.size w1).alloc (Nat.le_refl _) _).trans (hO2.below (Nat.le_refl _))).mono (Nat.le_of_lt hs1)); have hs3 : w.heap.size < w2.heap.size := (by have := hO2.size; simp at this; omega); clear hg2 hO2 hb1 hs1 hB'; have c0 : w2.cell? ⟨w.heap.size, 0, none⟩ = some (.int .i64 1) := (by rw [cell_of_row w2 w.heap.size 0 _ _ _ hb3]; rfl); have c2 : w2.cell? ⟨w.heap.size, 2, none⟩ = some (.int .i64 num) := (by rw [cell_of_row w2 w.heap.size 2 _ _ _ hb3]; rfl); have c3 : w2.cell? ⟨w.heap.size, 3, none⟩ = some (.int .i64 den) := (by rw [cell_of_row w2 w.heap.size 3 _ _ _ hb3]; rfl); have c4 : w2.cell? ⟨w.heap.size, 4, none⟩ = some (.int .i64 width) := (by rw [cell_of_row w2 w.heap.size 4 _ _ _ hb3]; rfl); have c5 : w2.cell? ⟨w.heap.size, 5, none⟩ = some (.int .i64 count) := (by rw [cell_of_row w2 w.heap.size 5 _ _ _ hb3]; rfl); have HG3 := Aside0.mk hg3; have HB3 := Aside0.mk hb3; clear hg3 hb3)
  go_ret
  exact ⟨rfl, hB3⟩
theorem cut_bucket (b : Nat) (k : Nat) (hk : k < 8) : (#[.pointer (some ⟨b, 0, none⟩), .int .i64 1, .int .i64 2, .pointer (some ⟨b, 1, none⟩), .int .i64 1, .int .i64 1048576, .pointer (some ⟨b, 2, none⟩), .int .i64 1, .int .i64 65536, .pointer (some ⟨b, 3, none⟩), .int .i64 1, .int .i64 65536, .pointer (some ⟨b, 6, none⟩), .int .i64 1, .int .i64 1000, .pointer (some ⟨b, 7, none⟩), .int .i64 1, .int .i64 64, .pointer (some ⟨b, 8, none⟩), .int .i64 0, .int .i64 1000, .pointer (some ⟨b, 9, none⟩), .int .i64 1, .int .i64 1000] : Array Value).extract (k * 3) (k * 3 + 3) = #[.pointer (some ⟨b, (foL 1).getD k 0, none⟩), .int .i64 (loL.getD k 0), .int .i64 ((hiL 1).getD k 0)] := by
  match k, hk with
  | 0, _ => simp [foL, loL, hiL]
  | 1, _ => simp [foL, loL, hiL]
  | 2, _ => simp [foL, loL, hiL]
  | 3, _ => simp [foL, loL, hiL]
  | 4, _ => simp [foL, loL, hiL]
  | 5, _ => simp [foL, loL, hiL]
  | 6, _ => simp [foL, loL, hiL]
  | 7, _ => simp [foL, loL, hiL]
  | k + 8, h => omega
theorem cell_bucket (cap num den keys slots every seg : Int) (k : Nat) (hk : k < 8) : (#[.int .i64 1, .int .i64 cap, .int .i64 num, .int .i64 den, .int .i64 0, .int .i64 0, .int .i64 keys, .int .i64 slots, .int .i64 every, .int .i64 seg] : Array Value)[(foL 1).getD k 0]? = some (.int .i64 (([1, cap, num, den, keys, slots, every, seg] : List Int).getD k 0)) := by
  match k, hk with
  | 0, _ => simp [foL]
  | 1, _ => simp [foL]
  | 2, _ => simp [foL]
  | 3, _ => simp [foL]
  | 4, _ => simp [foL]
  | 5, _ => simp [foL]
  | 6, _ => simp [foL]
  | 7, _ => simp [foL]
  | k + 8, h => omega
theorem pol_bucket (cap num den keys slots every seg : Int) : polB 1 cap num den 0 0 keys slots every seg = true ↔ ∀ j, j < 8 → loL.getD j 0 ≤ ([1, cap, num, den, keys, slots, every, seg] : List Int).getD j 0 ∧ ([1, cap, num, den, keys, slots, every, seg] : List Int).getD j 0 ≤ (hiL 1).getD j 0 := by
  unfold polB
  rw [decide_eq_true_iff]
  constructor
  · intro h j hj
    match j, hj with
    | 0, _ => simp [loL, hiL]; try omega
    | 1, _ => simp [loL, hiL]; try omega
    | 2, _ => simp [loL, hiL]; try omega
    | 3, _ => simp [loL, hiL]; try omega
    | 4, _ => simp [loL, hiL]; try omega
    | 5, _ => simp [loL, hiL]; try omega
    | 6, _ => simp [loL, hiL]; try omega
    | 7, _ => simp [loL, hiL]; try omega
    | k + 8, h => omega
  · intro h
    have h0 := h 0 (by omega)
    have h1 := h 1 (by omega)
    have h2 := h 2 (by omega)
    have h3 := h 3 (by omega)
    have h4 := h 4 (by omega)
    have h5 := h 5 (by omega)
    have h6 := h 6 (by omega)
    have h7 := h 7 (by omega)
    simp [loL, hiL] at h0 h1 h2 h3 h4 h5 h6 h7
    omega
set_option maxRecDepth 100000 in
set_option maxHeartbeats 4000000 in
theorem right_bucket_c (cap num den keys slots every seg : Int) (w : World) :
    Calls Try.prog 38 #[.agg #[.int .i64 1, .int .i64 cap, .int .i64 num, .int .i64 den, .int .i64 0, .int .i64 0, .int .i64 keys, .int .i64 slots, .int .i64 every, .int .i64 seg]] w fun e w' => e = .returned (.int .i64 (polE 1 cap num den 0 0 keys slots every seg)) ∧ Below w.heap.size w w' := by
  have hb0 := heap_alloc_new w (.cells #[.int .i64 1, .int .i64 cap, .int .i64 num, .int .i64 den, .int .i64 0, .int .i64 0, .int .i64 keys, .int .i64 slots, .int .i64 every, .int .i64 seg] 23 (0, 0))

  go_enter Try.func38, Try.ntmps38
  go_wp2_with fail
  refine (fields_bucket w.heap.size cap num den 0 0 keys slots every seg _ hb0).mono ?_
  rintro e w1 ⟨rfl, hB⟩
  have hB' : Below w.heap.size w w1 := ((Below.refl _ w).alloc (Nat.le_refl _) _).trans (hB.mono (by simp))
  have hb1 := (hB.block w.heap.size (by simp)).trans hb0
  have hs1 : w.heap.size < w1.heap.size := by have := hB.size; simp at this; omega
  clear hB hb0
  go_wp2_with (first | ((with_reducible refine gstore 123 rfl ?_); refine wpList_store_blk rfl 123 _ _ rfl w1.heap.size 0 #[.pointer none, .int .i64 0, .int .i64 0, .pointer none, .int .i64 0, .int .i64 0, .pointer none, .int .i64 0, .int .i64 0, .pointer none, .int .i64 0, .int .i64 0, .pointer none, .int .i64 0, .int .i64 0, .pointer none, .int .i64 0, .int .i64 0, .pointer none, .int .i64 0, .int .i64 0, .pointer none, .int .i64 0, .int .i64 0] 123 #[.pointer (some ⟨w.heap.size, 0, none⟩), .int .i64 1, .int .i64 2, .pointer (some ⟨w.heap.size, 1, none⟩), .int .i64 1, .int .i64 1048576, .pointer (some ⟨w.heap.size, 2, none⟩), .int .i64 1, .int .i64 65536, .pointer (some ⟨w.heap.size, 3, none⟩), .int .i64 1, .int .i64 65536, .pointer (some ⟨w.heap.size, 6, none⟩), .int .i64 1, .int .i64 1000, .pointer (some ⟨w.heap.size, 7, none⟩), .int .i64 1, .int .i64 64, .pointer (some ⟨w.heap.size, 8, none⟩), .int .i64 0, .int .i64 1000, .pointer (some ⟨w.heap.size, 9, none⟩), .int .i64 1, .int .i64 1000] rfl rfl (heap_alloc_new w1 _) (by simp) (by kernel_rfl) (by simp [Value.oneCell']) ?_; intro w2 hg2 hO2; have hg3 : w2.heap[w1.heap.size]? = some (.cells #[.pointer (some ⟨w.heap.size, 0, none⟩), .int .i64 1, .int .i64 2, .pointer (some ⟨w.heap.size, 1, none⟩), .int .i64 1, .int .i64 1048576, .pointer (some ⟨w.heap.size, 2, none⟩), .int .i64 1, .int .i64 65536, .pointer (some ⟨w.heap.size, 3, none⟩), .int .i64 1, .int .i64 65536, .pointer (some ⟨w.heap.size, 6, none⟩), .int .i64 1, .int .i64 1000, .pointer (some ⟨w.heap.size, 7, none⟩), .int .i64 1, .int .i64 64, .pointer (some ⟨w.heap.size, 8, none⟩), .int .i64 0, .int .i64 1000, .pointer (some ⟨w.heap.size, 9, none⟩), .int .i64 1, .int .i64 1000] 123 (0, 0)) := (hg2.trans (by rw [splice_whole (by rfl)])); have hb3 : w2.heap[w.heap.size]? = some (.cells #[.int .i64 1, .int .i64 cap, .int .i64 num, .int .i64 den, .int .i64 0, .int .i64 0, .int .i64 keys, .int .i64 slots, .int .i64 every, .int .i64 seg] 23 (0, 0)) := (hO2.other _ (by omega)).trans ((Below.heap_alloc w1 _ _ hs1).trans hb1); have hB3 : Below w.heap.size w w2 := hB'.trans ((((Below.refl w1.heap.size w1).alloc (Nat.le_refl _) _).trans (hO2.below (Nat.le_refl _))).mono (Nat.le_of_lt hs1)); have hs3 : w.heap.size < w2.heap.size := (by have := hO2.size; simp at this; omega); clear hg2 hO2 hb1 hs1 hB'; have c0 : w2.cell? ⟨w.heap.size, 0, none⟩ = some (.int .i64 1) := (by rw [cell_of_row w2 w.heap.size 0 _ _ _ hb3]; rfl); have c2 : w2.cell? ⟨w.heap.size, 2, none⟩ = some (.int .i64 num) := (by rw [cell_of_row w2 w.heap.size 2 _ _ _ hb3]; rfl); have c3 : w2.cell? ⟨w.heap.size, 3, none⟩ = some (.int .i64 den) := (by rw [cell_of_row w2 w.heap.size 3 _ _ _ hb3]; rfl); have c4 : w2.cell? ⟨w.heap.size, 4, none⟩ = some (.int .i64 0) := (by rw [cell_of_row w2 w.heap.size 4 _ _ _ hb3]; rfl); have c5 : w2.cell? ⟨w.heap.size, 5, none⟩ = some (.int .i64 0) := (by rw [cell_of_row w2 w.heap.size 5 _ _ _ hb3]; rfl); have HG3 := Aside0.mk hg3; have HB3 := Aside0.mk hb3; clear hg3 hb3) | ((with_reducible refine gload 123 rfl ?_); refine wpList_load_blk rfl 123 _ rfl w1.heap.size #[.pointer (some ⟨w.heap.size, 0, none⟩), .int .i64 1, .int .i64 2, .pointer (some ⟨w.heap.size, 1, none⟩), .int .i64 1, .int .i64 1048576, .pointer (some ⟨w.heap.size, 2, none⟩), .int .i64 1, .int .i64 65536, .pointer (some ⟨w.heap.size, 3, none⟩), .int .i64 1, .int .i64 65536, .pointer (some ⟨w.heap.size, 6, none⟩), .int .i64 1, .int .i64 1000, .pointer (some ⟨w.heap.size, 7, none⟩), .int .i64 1, .int .i64 64, .pointer (some ⟨w.heap.size, 8, none⟩), .int .i64 0, .int .i64 1000, .pointer (some ⟨w.heap.size, 9, none⟩), .int .i64 1, .int .i64 1000] 123 (0, 0) rfl HG3.out _ Try.underlying123 rfl (by kernel_rfl) ?_))
  have pol := Aside0.mk (pol_bucket cap num den keys slots every seg)
  have ru := @run_index_arr Try.prog 123 122 8 3 Try.underlying123 info_field _ Try.underlying122 rfl #[.pointer (some ⟨w.heap.size, 0, none⟩), .int .i64 1, .int .i64 2, .pointer (some ⟨w.heap.size, 1, none⟩), .int .i64 1, .int .i64 1048576, .pointer (some ⟨w.heap.size, 2, none⟩), .int .i64 1, .int .i64 65536, .pointer (some ⟨w.heap.size, 3, none⟩), .int .i64 1, .int .i64 65536, .pointer (some ⟨w.heap.size, 6, none⟩), .int .i64 1, .int .i64 1000, .pointer (some ⟨w.heap.size, 7, none⟩), .int .i64 1, .int .i64 64, .pointer (some ⟨w.heap.size, 8, none⟩), .int .i64 0, .int .i64 1000, .pointer (some ⟨w.heap.size, 9, none⟩), .int .i64 1, .int .i64 1000]
  have RU := Aside0.mk ru
  clear ru
  have base : Aside0 (w2.heap[w.heap.size]? = _ ∧ Below w.heap.size w w2 ∧ w.heap.size < w2.heap.size) := ⟨HB3.out, hB3, hs3⟩
  clear c0 c2 c3 c4 c5 hB3 hs3 HG3 HB3
  go_loopw [44] (fun i wr => ∃ k : Nat, k ≤ 8 ∧ i = .int .i64 (k : Int) ∧ (∀ j, j < k → loL.getD j 0 ≤ ([1, cap, num, den, keys, slots, every, seg] : List Int).getD j 0 ∧ ([1, cap, num, den, keys, slots, every, seg] : List Int).getD j 0 ≤ (hiL 1).getD j 0) ∧ Aside0 (wr.heap[w.heap.size]? = some (.cells #[.int .i64 1, .int .i64 cap, .int .i64 num, .int .i64 den, .int .i64 0, .int .i64 0, .int .i64 keys, .int .i64 slots, .int .i64 every, .int .i64 seg] 23 (0, 0)) ∧ Below w.heap.size w wr ∧ w.heap.size < wr.heap.size)) (fun i _ => 8 - (intOf i).toNat)
  case atStart => exact ⟨0, by omega, rfl, fun j hj => absurd hj (by omega), base⟩
  case round =>
    obtain ⟨k, hk, rfl, hall, BS⟩ := hrel
    clear base
    have HALL := Aside0.mk hall
    clear hall
    by_cases hlt : k < 8
    · have hx := fun W => (RU.out k hlt W).trans (by rw [cut_bucket _ k hlt])
      have hc := cell_bucket cap num den keys slots every seg k hlt
      generalize hf : (foL 1).getD k 0 = f at hx hc
      generalize hlo : loL.getD k 0 = lo at hx
      generalize hhi : (hiL 1).getD k 0 = hi at hx
      generalize hv : ([1, cap, num, den, keys, slots, every, seg] : List Int).getD k 0 = v at hc
      have cv : wr.cell? ⟨w.heap.size, f, none⟩ = some (.int .i64 v) := by rw [cell_of_row wr w.heap.size f _ _ _ BS.out.1]; exact hc
      have HV := Aside0.mk (And.intro hlo (And.intro hhi hv))
      clear hf hlo hhi hv hc RU
      by_cases hlow : v < lo
      · have d1 : decide (v < lo) = true := decide_eq_true hlow
        go_wp2_with ((with_reducible refine gstore 122 rfl ?_); refine wpList_store_blk rfl 122 _ _ rfl wr.heap.size 0 #[.pointer none, .int .i64 0, .int .i64 0] 122 #[.pointer (some ⟨w.heap.size, f, none⟩), .int .i64 lo, .int .i64 hi] rfl rfl (heap_alloc_new wr _) (by simp) (by kernel_rfl) (by simp [Value.oneCell']) ?_; intro w4 hg4 hO4; have hs4 : wr.heap.size < w4.heap.size := (by rw [hO4.size]; simp); have hg5 : w4.heap[wr.heap.size]? = some (.cells #[.pointer (some ⟨w.heap.size, f, none⟩), .int .i64 lo, .int .i64 hi] 122 (0, 0)) := (hg4.trans (by rw [splice_whole (by rfl)])); have e0 : w4.cell? ⟨wr.heap.size, 0, none⟩ = some (.pointer (some ⟨w.heap.size, f, none⟩)) := (by rw [cell_of_row w4 _ 0 _ _ _ hg5]; rfl); have e1 : w4.cell? ⟨wr.heap.size, 1, none⟩ = some (.int .i64 lo) := (by rw [cell_of_row w4 _ 1 _ _ _ hg5]; rfl); have e2 : w4.cell? ⟨wr.heap.size, 2, none⟩ = some (.int .i64 hi) := (by rw [cell_of_row w4 _ 2 _ _ _ hg5]; rfl); have hl4 : w.heap.size < wr.heap.size := BS.out.2.2; have hbb := (hO4.other w.heap.size (by omega)).trans ((Below.heap_alloc wr _ _ hl4).trans BS.out.1); have BS4 : Aside0 (w4.heap[w.heap.size]? = some (.cells #[.int .i64 1, .int .i64 cap, .int .i64 num, .int .i64 den, .int .i64 0, .int .i64 0, .int .i64 keys, .int .i64 slots, .int .i64 every, .int .i64 seg] 23 (0, 0)) ∧ Below w.heap.size w w4 ∧ w.heap.size < w4.heap.size) := ⟨hbb, (BS.out.2.1.alloc (Nat.le_of_lt hl4) _).trans (hO4.below (Nat.le_of_lt hl4)), (by omega)⟩; have cv4 : w4.cell? ⟨w.heap.size, f, none⟩ = some (.int .i64 v) := (by rw [← cv]; unfold World.cell?; rw [hbb, BS.out.1]); clear hg4 hO4 hs4 hg5 hl4 hbb)
        go_quiet (fail)
        go_wp2
        go_ret
        exact ⟨(by rw [polE_bad (fun h => by have h1 := (pol.out.1 h) k hlt; have h2 := HV.out; omega)]; rfl), pw_below_drewN BS4.out.2.1 _⟩
      · have d1 : decide (v < lo) = false := decide_eq_false hlow
        by_cases hhigh : hi < v
        · have d2 : decide (hi < v) = true := decide_eq_true hhigh
          go_wp2_with ((with_reducible refine gstore 122 rfl ?_); refine wpList_store_blk rfl 122 _ _ rfl wr.heap.size 0 #[.pointer none, .int .i64 0, .int .i64 0] 122 #[.pointer (some ⟨w.heap.size, f, none⟩), .int .i64 lo, .int .i64 hi] rfl rfl (heap_alloc_new wr _) (by simp) (by kernel_rfl) (by simp [Value.oneCell']) ?_; intro w4 hg4 hO4; have hs4 : wr.heap.size < w4.heap.size := (by rw [hO4.size]; simp); have hg5 : w4.heap[wr.heap.size]? = some (.cells #[.pointer (some ⟨w.heap.size, f, none⟩), .int .i64 lo, .int .i64 hi] 122 (0, 0)) := (hg4.trans (by rw [splice_whole (by rfl)])); have e0 : w4.cell? ⟨wr.heap.size, 0, none⟩ = some (.pointer (some ⟨w.heap.size, f, none⟩)) := (by rw [cell_of_row w4 _ 0 _ _ _ hg5]; rfl); have e1 : w4.cell? ⟨wr.heap.size, 1, none⟩ = some (.int .i64 lo) := (by rw [cell_of_row w4 _ 1 _ _ _ hg5]; rfl); have e2 : w4.cell? ⟨wr.heap.size, 2, none⟩ = some (.int .i64 hi) := (by rw [cell_of_row w4 _ 2 _ _ _ hg5]; rfl); have hl4 : w.heap.size < wr.heap.size := BS.out.2.2; have hbb := (hO4.other w.heap.size (by omega)).trans ((Below.heap_alloc wr _ _ hl4).trans BS.out.1); have BS4 : Aside0 (w4.heap[w.heap.size]? = some (.cells #[.int .i64 1, .int .i64 cap, .int .i64 num, .int .i64 den, .int .i64 0, .int .i64 0, .int .i64 keys, .int .i64 slots, .int .i64 every, .int .i64 seg] 23 (0, 0)) ∧ Below w.heap.size w w4 ∧ w.heap.size < w4.heap.size) := ⟨hbb, (BS.out.2.1.alloc (Nat.le_of_lt hl4) _).trans (hO4.below (Nat.le_of_lt hl4)), (by omega)⟩; have cv4 : w4.cell? ⟨w.heap.size, f, none⟩ = some (.int .i64 v) := (by rw [← cv]; unfold World.cell?; rw [hbb, BS.out.1]); clear hg4 hO4 hs4 hg5 hl4 hbb)
          go_quiet (fail)
          go_wp2
          go_ret
          exact ⟨(by rw [polE_bad (fun h => by have h1 := (pol.out.1 h) k hlt; have h2 := HV.out; omega)]; rfl), pw_below_drewN BS4.out.2.1 _⟩
        · have d2 : decide (hi < v) = false := decide_eq_false hhigh
          go_wp2_with ((with_reducible refine gstore 122 rfl ?_); refine wpList_store_blk rfl 122 _ _ rfl wr.heap.size 0 #[.pointer none, .int .i64 0, .int .i64 0] 122 #[.pointer (some ⟨w.heap.size, f, none⟩), .int .i64 lo, .int .i64 hi] rfl rfl (heap_alloc_new wr _) (by simp) (by kernel_rfl) (by simp [Value.oneCell']) ?_; intro w4 hg4 hO4; have hs4 : wr.heap.size < w4.heap.size := (by rw [hO4.size]; simp); have hg5 : w4.heap[wr.heap.size]? = some (.cells #[.pointer (some ⟨w.heap.size, f, none⟩), .int .i64 lo, .int .i64 hi] 122 (0, 0)) := (hg4.trans (by rw [splice_whole (by rfl)])); have e0 : w4.cell? ⟨wr.heap.size, 0, none⟩ = some (.pointer (some ⟨w.heap.size, f, none⟩)) := (by rw [cell_of_row w4 _ 0 _ _ _ hg5]; rfl); have e1 : w4.cell? ⟨wr.heap.size, 1, none⟩ = some (.int .i64 lo) := (by rw [cell_of_row w4 _ 1 _ _ _ hg5]; rfl); have e2 : w4.cell? ⟨wr.heap.size, 2, none⟩ = some (.int .i64 hi) := (by rw [cell_of_row w4 _ 2 _ _ _ hg5]; rfl); have hl4 : w.heap.size < wr.heap.size := BS.out.2.2; have hbb := (hO4.other w.heap.size (by omega)).trans ((Below.heap_alloc wr _ _ hl4).trans BS.out.1); have BS4 : Aside0 (w4.heap[w.heap.size]? = some (.cells #[.int .i64 1, .int .i64 cap, .int .i64 num, .int .i64 den, .int .i64 0, .int .i64 0, .int .i64 keys, .int .i64 slots, .int .i64 every, .int .i64 seg] 23 (0, 0)) ∧ Below w.heap.size w w4 ∧ w.heap.size < w4.heap.size) := ⟨hbb, (BS.out.2.1.alloc (Nat.le_of_lt hl4) _).trans (hO4.below (Nat.le_of_lt hl4)), (by omega)⟩; have cv4 : w4.cell? ⟨w.heap.size, f, none⟩ = some (.int .i64 v) := (by rw [← cv]; unfold World.cell?; rw [hbb, BS.out.1]); clear hg4 hO4 hs4 hg5 hl4 hbb)
          go_quiet (fail)
          go_wp2
          have hnext : ∀ j, j < k + 1 → loL.getD j 0 ≤ ([1, cap, num, den, keys, slots, every, seg] : List Int).getD j 0 ∧ ([1, cap, num, den, keys, slots, every, seg] : List Int).getD j 0 ≤ (hiL 1).getD j 0 := fun j hj => by
            rcases Nat.lt_or_ge j k with h | h
            · exact HALL.out j h
            · obtain rfl : j = k := by omega
              have h2 := HV.out
              omega
          go_roundw
          case rel => exact ⟨k + 1, by omega, by go_num, hnext, ⟨BS4.out.1, pw_below_drewN BS4.out.2.1 _, BS4.out.2.2⟩⟩
          case measure => simp [intOf]; omega
    · obtain rfl : k = 8 := by omega
      go_wp2_with fail
      go_ret
      exact ⟨(by rw [polE_ok (pol.out.2 HALL.out)]; rfl), BS.out.2.1⟩
end Go.Proofs.Ytnodnpenlplleaa.Own
/- policy.Right answers OK (0) or ErrPolicy (40), as the plain test polB says; nothing that was there has turned. -/
namespace Go.Proofs.Ytnodnpenlplleaa.Own
open Go.RowKit Go.Proofs.YtnodnpenlplleaaW.PrintWords Go.Proofs.YtnodnpenlplleaaW.PrintLast
set_option linter.unusedVariables false
set_option linter.unusedSimpArgs false
set_option maxRecDepth 100000 in
set_option maxHeartbeats 4000000 in
theorem right_window_a (cap num den width count keys slots every seg : Int) (w : World) (hz1 : (num != 0) = true) :
    Calls Try.prog 38 #[.agg #[.int .i64 2, .int .i64 cap, .int .i64 num, .int .i64 den, .int .i64 width, .int .i64 count, .int .i64 keys, .int .i64 slots, .int .i64 every, .int .i64 seg]] w fun e w' => e = .returned (.int .i64 40) ∧ Below w.heap.size w w' := by
  have hb0 := heap_alloc_new w (.cells #[.int .i64 2, .int .i64 cap, .int .i64 num, .int .i64 den, .int .i64 width, .int .i64 count, .int .i64 keys, .int .i64 slots, .int .i64 every, .int .i64 seg] 23 (0, 0))
  go_enter Try.func38, Try.ntmps38
  go_wp2_with fail
  refine (fields_window w.heap.size cap num den width count keys slots every seg _ hb0).mono ?_
  rintro e w1 ⟨rfl, hB⟩
  have hB' : Below w.heap.size w w1 := ((Below.refl _ w).alloc (Nat.le_refl _) _).trans (hB.mono (by simp))
  have hb1 := (hB.block w.heap.size (by simp)).trans hb0
  have hs1 : w.heap.size < w1.heap.size := by have := hB.size; simp at this; omega
  clear hB hb0
  go_wp2_with ((with_reducible refine gstore 123 rfl ?_); refine wpList_store_blk rfl 123 _ _ rfl w1.heap.size 0 #[.pointer none, .int .i64 0, .int .i64 0, .pointer none, .int .i64 0, .int .i64 0, .pointer none, .int .i64 0, .int .i64 0, .pointer none, .int .i64 0, .int .i64 0, .pointer none, .int .i64 0, .int .i64 0, .pointer none, .int .i64 0, .int .i64 0, .pointer none, .int .i64 0, .int .i64 0, .pointer none, .int .i64 0, .int .i64 0] 123 #[.pointer (some ⟨w.heap.size, 0, none⟩), .int .i64 1, .int .i64 2, .pointer (some ⟨w.heap.size, 1, none⟩), .int .i64 1, .int .i64 1048576, .pointer (some ⟨w.heap.size, 4, none⟩), .int .i64 1, .int .i64 1048576, .pointer (some ⟨w.heap.size, 5, none⟩), .int .i64 1, .int .i64 32, .pointer (some ⟨w.heap.size, 6, none⟩), .int .i64 1, .int .i64 1000, .pointer (some ⟨w.heap.size, 7, none⟩), .int .i64 1, .int .i64 64, .pointer (some ⟨w.heap.size, 8, none⟩), .int .i64 0, .int .i64 1000, .pointer (some ⟨w.heap.size, 9, none⟩), .int .i64 1, .int .i64 1000] rfl rfl (heap_alloc_new w1 _) (by simp) (by kernel_rfl) (by simp [Value.oneCell']) ?_; intro w2 hg2 hO2; have hg3 : w2.heap[w1.heap.size]? = some (.cells #[.pointer (some ⟨w.heap.size, 0, none⟩), .int .i64 1, .int .i64 2, .pointer (some ⟨w.heap.size, 1, none⟩), .int .i64 1, .int .i64 1048576, .pointer (some ⟨w.heap.size, 4, none⟩), .int .i64 1, .int .i64 1048576, .pointer (some ⟨w.heap.size, 5, none⟩), .int .i64 1, .int .i64 32, .pointer (some ⟨w.heap.size, 6, none⟩), .int .i64 1, .int .i64 1000, .pointer (some ⟨w.heap.size, 7, none⟩), .int .i64 1, .int .i64 64, .pointer (some ⟨w.heap.size, 8, none⟩), .int .i64 0, .int .i64 1000, .pointer (some ⟨w.heap.size, 9, none⟩), .int .i64 1, .int .i64 1000] 123 (0, 0)) := (hg2.trans (by rw [splice_whole (by rfl)])); have hb3 : w2.heap[w.heap.size]? = some (.cells #[.int .i64 2, .int .i64 cap, .int .i64 num, .int .i64 den, .int .i64 width, .int .i64 count, .int .i64 keys, .int .i64 slots, .int .i64 every, .int .i64 seg] 23 (0, 0)) := (hO2.other _ (by omega)).trans ((Below.heap_alloc w1 _ _ hs1).trans hb1); have hB3 : Below w.heap.size w w2 := hB'.trans ((((Below.refl w1.heap.size w1).alloc (Nat.le_refl _) _).trans (hO2.below (Nat.le_refl _))).mono (Nat.le_of_lt hs1)); have hs3 : w.heap.size < w2.heap.size := (by have := hO2.size; simp at this; omega); clear hg2 hO2 hb1 hs1 hB'; have c0 : w2.cell? ⟨w.heap.size, 0, none⟩ = some (.int .i64 2) := (by rw [cell_of_row w2 w.heap.size 0 _ _ _ hb3]; rfl); have c2 : w2.cell? ⟨w.heap.size, 2, none⟩ = some (.int .i64 num) := (by rw [cell_of_row w2 w.heap.size 2 _ _ _ hb3]; rfl); have c3 : w2.cell? ⟨w.heap.size, 3, none⟩ = some (.int .i64 den) := (by rw [cell_of_row w2 w.heap.size 3 _ _ _ hb3]; rfl); have c4 : w2.cell? ⟨w.heap.size, 4, none⟩ = some (.int .i64 width) := (by rw [cell_of_row w2 w.heap.size 4 _ _ _ hb3]; rfl); have c5 : w2.cell? ⟨w.heap.size, 5, none⟩ = some (.int .i64 count) := (by rw [cell_of_row w2 w.heap.size 5 _ _ _ hb3]; rfl); have HG3 := Aside0.mk hg3; have HB3 := Aside0.mk hb3; clear hg3 hb3)
  go_ret
  exact ⟨rfl, hB3⟩
set_option maxRecDepth 100000 in
set_option maxHeartbeats 4000000 in
theorem right_window_b (cap num den width count keys slots every seg : Int) (w : World) (hz1 : (num != 0) = false) (hz2 : (den != 0) = true) :
    Calls Try.prog 38 #[.agg #[.int .i64 2, .int .i64 cap, .int .i64 num, .int .i64 den, .int .i64 width, .int .i64 count, .int .i64 keys, .int .i64 slots, .int .i64 every, .int .i64 seg]] w fun e w' => e = .returned (.int .i64 40) ∧ Below w.heap.size w w' := by
  have hb0 := heap_alloc_new w (.cells #[.int .i64 2, .int .i64 cap, .int .i64 num, .int .i64 den, .int .i64 width, .int .i64 count, .int .i64 keys, .int .i64 slots, .int .i64 every, .int .i64 seg] 23 (0, 0))
  go_enter Try.func38, Try.ntmps38
  go_wp2_with fail
  refine (fields_window w.heap.size cap num den width count keys slots every seg _ hb0).mono ?_
  rintro e w1 ⟨rfl, hB⟩
  have hB' : Below w.heap.size w w1 := ((Below.refl _ w).alloc (Nat.le_refl _) _).trans (hB.mono (by simp))
  have hb1 := (hB.block w.heap.size (by simp)).trans hb0
  have hs1 : w.heap.size < w1.heap.size := by have := hB.size; simp at this; omega
  clear hB hb0
  go_wp2_with ((with_reducible refine gstore 123 rfl ?_); refine wpList_store_blk rfl 123 _ _ rfl w1.heap.size 0 #[.pointer none, .int .i64 0, .int .i64 0, .pointer none, .int .i64 0, .int .i64 0, .pointer none, .int .i64 0, .int .i64 0, .pointer none, .int .i64 0, .int .i64 0, .pointer none, .int .i64 0, .int .i64 0, .pointer none, .int .i64 0, .int .i64 0, .pointer none, .int .i64 0, .int .i64 0, .pointer none, .int .i64 0, .int .i64 0] 123 #[.pointer (some ⟨w.heap.size, 0, none⟩), .int .i64 1, .int .i64 2, .pointer (some ⟨w.heap.size, 1, none⟩), .int .i64 1, .int .i64 1048576, .pointer (some ⟨w.heap.size, 4, none⟩), .int .i64 1, .int .i64 1048576, .pointer (some ⟨w.heap.size, 5, none⟩), .int .i64 1, .int .i64 32, .pointer (some ⟨w.heap.size, 6, none⟩), .int .i64 1, .int .i64 1000, .pointer (some ⟨w.heap.size, 7, none⟩), .int .i64 1, .int .i64 64, .pointer (some ⟨w.heap.size, 8, none⟩), .int .i64 0, .int .i64 1000, .pointer (some ⟨w.heap.size, 9, none⟩), .int .i64 1, .int .i64 1000] rfl rfl (heap_alloc_new w1 _) (by simp) (by kernel_rfl) (by simp [Value.oneCell']) ?_; intro w2 hg2 hO2; have hg3 : w2.heap[w1.heap.size]? = some (.cells #[.pointer (some ⟨w.heap.size, 0, none⟩), .int .i64 1, .int .i64 2, .pointer (some ⟨w.heap.size, 1, none⟩), .int .i64 1, .int .i64 1048576, .pointer (some ⟨w.heap.size, 4, none⟩), .int .i64 1, .int .i64 1048576, .pointer (some ⟨w.heap.size, 5, none⟩), .int .i64 1, .int .i64 32, .pointer (some ⟨w.heap.size, 6, none⟩), .int .i64 1, .int .i64 1000, .pointer (some ⟨w.heap.size, 7, none⟩), .int .i64 1, .int .i64 64, .pointer (some ⟨w.heap.size, 8, none⟩), .int .i64 0, .int .i64 1000, .pointer (some ⟨w.heap.size, 9, none⟩), .int .i64 1, .int .i64 1000] 123 (0, 0)) := (hg2.trans (by rw [splice_whole (by rfl)])); have hb3 : w2.heap[w.heap.size]? = some (.cells #[.int .i64 2, .int .i64 cap, .int .i64 num, .int .i64 den, .int .i64 width, .int .i64 count, .int .i64 keys, .int .i64 slots, .int .i64 every, .int .i64 seg] 23 (0, 0)) := (hO2.other _ (by omega)).trans ((Below.heap_alloc w1 _ _ hs1).trans hb1); have hB3 : Below w.heap.size w w2 := hB'.trans ((((Below.refl w1.heap.size w1).alloc (Nat.le_refl _) _).trans (hO2.below (Nat.le_refl _))).mono (Nat.le_of_lt hs1)); have hs3 : w.heap.size < w2.heap.size := (by have := hO2.size; simp at this; omega); clear hg2 hO2 hb1 hs1 hB'; have c0 : w2.cell? ⟨w.heap.size, 0, none⟩ = some (.int .i64 2) := (by rw [cell_of_row w2 w.heap.size 0 _ _ _ hb3]; rfl); have c2 : w2.cell? ⟨w.heap.size, 2, none⟩ = some (.int .i64 num) := (by rw [cell_of_row w2 w.heap.size 2 _ _ _ hb3]; rfl); have c3 : w2.cell? ⟨w.heap.size, 3, none⟩ = some (.int .i64 den) := (by rw [cell_of_row w2 w.heap.size 3 _ _ _ hb3]; rfl); have c4 : w2.cell? ⟨w.heap.size, 4, none⟩ = some (.int .i64 width) := (by rw [cell_of_row w2 w.heap.size 4 _ _ _ hb3]; rfl); have c5 : w2.cell? ⟨w.heap.size, 5, none⟩ = some (.int .i64 count) := (by rw [cell_of_row w2 w.heap.size 5 _ _ _ hb3]; rfl); have HG3 := Aside0.mk hg3; have HB3 := Aside0.mk hb3; clear hg3 hb3)
  go_ret
  exact ⟨rfl, hB3⟩
theorem cut_window (b : Nat) (k : Nat) (hk : k < 8) : (#[.pointer (some ⟨b, 0, none⟩), .int .i64 1, .int .i64 2, .pointer (some ⟨b, 1, none⟩), .int .i64 1, .int .i64 1048576, .pointer (some ⟨b, 4, none⟩), .int .i64 1, .int .i64 1048576, .pointer (some ⟨b, 5, none⟩), .int .i64 1, .int .i64 32, .pointer (some ⟨b, 6, none⟩), .int .i64 1, .int .i64 1000, .pointer (some ⟨b, 7, none⟩), .int .i64 1, .int .i64 64, .pointer (some ⟨b, 8, none⟩), .int .i64 0, .int .i64 1000, .pointer (some ⟨b, 9, none⟩), .int .i64 1, .int .i64 1000] : Array Value).extract (k * 3) (k * 3 + 3) = #[.pointer (some ⟨b, (foL 2).getD k 0, none⟩), .int .i64 (loL.getD k 0), .int .i64 ((hiL 2).getD k 0)] := by
  match k, hk with
  | 0, _ => simp [foL, loL, hiL]
  | 1, _ => simp [foL, loL, hiL]
  | 2, _ => simp [foL, loL, hiL]
  | 3, _ => simp [foL, loL, hiL]
  | 4, _ => simp [foL, loL, hiL]
  | 5, _ => simp [foL, loL, hiL]
  | 6, _ => simp [foL, loL, hiL]
  | 7, _ => simp [foL, loL, hiL]
  | k + 8, h => omega
theorem cell_window (cap width count keys slots every seg : Int) (k : Nat) (hk : k < 8) : (#[.int .i64 2, .int .i64 cap, .int .i64 0, .int .i64 0, .int .i64 width, .int .i64 count, .int .i64 keys, .int .i64 slots, .int .i64 every, .int .i64 seg] : Array Value)[(foL 2).getD k 0]? = some (.int .i64 (([2, cap, width, count, keys, slots, every, seg] : List Int).getD k 0)) := by
  match k, hk with
  | 0, _ => simp [foL]
  | 1, _ => simp [foL]
  | 2, _ => simp [foL]
  | 3, _ => simp [foL]
  | 4, _ => simp [foL]
  | 5, _ => simp [foL]
  | 6, _ => simp [foL]
  | 7, _ => simp [foL]
  | k + 8, h => omega
theorem pol_window (cap width count keys slots every seg : Int) : polB 2 cap 0 0 width count keys slots every seg = true ↔ ∀ j, j < 8 → loL.getD j 0 ≤ ([2, cap, width, count, keys, slots, every, seg] : List Int).getD j 0 ∧ ([2, cap, width, count, keys, slots, every, seg] : List Int).getD j 0 ≤ (hiL 2).getD j 0 := by
  unfold polB
  rw [decide_eq_true_iff]
  constructor
  · intro h j hj
    match j, hj with
    | 0, _ => simp [loL, hiL]; try omega
    | 1, _ => simp [loL, hiL]; try omega
    | 2, _ => simp [loL, hiL]; try omega
    | 3, _ => simp [loL, hiL]; try omega
    | 4, _ => simp [loL, hiL]; try omega
    | 5, _ => simp [loL, hiL]; try omega
    | 6, _ => simp [loL, hiL]; try omega
    | 7, _ => simp [loL, hiL]; try omega
    | k + 8, h => omega
  · intro h
    have h0 := h 0 (by omega)
    have h1 := h 1 (by omega)
    have h2 := h 2 (by omega)
    have h3 := h 3 (by omega)
    have h4 := h 4 (by omega)
    have h5 := h 5 (by omega)
    have h6 := h 6 (by omega)
    have h7 := h 7 (by omega)
    simp [loL, hiL] at h0 h1 h2 h3 h4 h5 h6 h7
    omega
set_option maxRecDepth 100000 in
set_option maxHeartbeats 4000000 in
theorem right_window_c (cap width count keys slots every seg : Int) (w : World) :
    Calls Try.prog 38 #[.agg #[.int .i64 2, .int .i64 cap, .int .i64 0, .int .i64 0, .int .i64 width, .int .i64 count, .int .i64 keys, .int .i64 slots, .int .i64 every, .int .i64 seg]] w fun e w' => e = .returned (.int .i64 (polE 2 cap 0 0 width count keys slots every seg)) ∧ Below w.heap.size w w' := by
  have hb0 := heap_alloc_new w (.cells #[.int .i64 2, .int .i64 cap, .int .i64 0, .int .i64 0, .int .i64 width, .int .i64 count, .int .i64 keys, .int .i64 slots, .int .i64 every, .int .i64 seg] 23 (0, 0))
  go_enter Try.func38, Try.ntmps38
  go_wp2_with fail
  refine (fields_window w.heap.size cap 0 0 width count keys slots every seg _ hb0).mono ?_
  rintro e w1 ⟨rfl, hB⟩
  have hB' : Below w.heap.size w w1 := ((Below.refl _ w).alloc (Nat.le_refl _) _).trans (hB.mono (by simp))
  have hb1 := (hB.block w.heap.size (by simp)).trans hb0
  have hs1 : w.heap.size < w1.heap.size := by have := hB.size; simp at this; omega
  clear hB hb0
  go_wp2_with (first | ((with_reducible refine gstore 123 rfl ?_); refine wpList_store_blk rfl 123 _ _ rfl w1.heap.size 0 #[.pointer none, .int .i64 0, .int .i64 0, .pointer none, .int .i64 0, .int .i64 0, .pointer none, .int .i64 0, .int .i64 0, .pointer none, .int .i64 0, .int .i64 0, .pointer none, .int .i64 0, .int .i64 0, .pointer none, .int .i64 0, .int .i64 0, .pointer none, .int .i64 0, .int .i64 0, .pointer none, .int .i64 0, .int .i64 0] 123 #[.pointer (some ⟨w.heap.size, 0, none⟩), .int .i64 1, .int .i64 2, .pointer (some ⟨w.heap.size, 1, none⟩), .int .i64 1, .int .i64 1048576, .pointer (some ⟨w.heap.size, 4, none⟩), .int .i64 1, .int .i64 1048576, .pointer (some ⟨w.heap.size, 5, none⟩), .int .i64 1, .int .i64 32, .pointer (some ⟨w.heap.size, 6, none⟩), .int .i64 1, .int .i64 1000, .pointer (some ⟨w.heap.size, 7, none⟩), .int .i64 1, .int .i64 64, .pointer (some ⟨w.heap.size, 8, none⟩), .int .i64 0, .int .i64 1000, .pointer (some ⟨w.heap.size, 9, none⟩), .int .i64 1, .int .i64 1000] rfl rfl (heap_alloc_new w1 _) (by simp) (by kernel_rfl) (by simp [Value.oneCell']) ?_; intro w2 hg2 hO2; have hg3 : w2.heap[w1.heap.size]? = some (.cells #[.pointer (some ⟨w.heap.size, 0, none⟩), .int .i64 1, .int .i64 2, .pointer (some ⟨w.heap.size, 1, none⟩), .int .i64 1, .int .i64 1048576, .pointer (some ⟨w.heap.size, 4, none⟩), .int .i64 1, .int .i64 1048576, .pointer (some ⟨w.heap.size, 5, none⟩), .int .i64 1, .int .i64 32, .pointer (some ⟨w.heap.size, 6, none⟩), .int .i64 1, .int .i64 1000, .pointer (some ⟨w.heap.size, 7, none⟩), .int .i64 1, .int .i64 64, .pointer (some ⟨w.heap.size, 8, none⟩), .int .i64 0, .int .i64 1000, .pointer (some ⟨w.heap.size, 9, none⟩), .int .i64 1, .int .i64 1000] 123 (0, 0)) := (hg2.trans (by rw [splice_whole (by rfl)])); have hb3 : w2.heap[w.heap.size]? = some (.cells #[.int .i64 2, .int .i64 cap, .int .i64 0, .int .i64 0, .int .i64 width, .int .i64 count, .int .i64 keys, .int .i64 slots, .int .i64 every, .int .i64 seg] 23 (0, 0)) := (hO2.other _ (by omega)).trans ((Below.heap_alloc w1 _ _ hs1).trans hb1); have hB3 : Below w.heap.size w w2 := hB'.trans ((((Below.refl w1.heap.size w1).alloc (Nat.le_refl _) _).trans (hO2.below (Nat.le_refl _))).mono (Nat.le_of_lt hs1)); have hs3 : w.heap.size < w2.heap.size := (by have := hO2.size; simp at this; omega); clear hg2 hO2 hb1 hs1 hB'; have c0 : w2.cell? ⟨w.heap.size, 0, none⟩ = some (.int .i64 2) := (by rw [cell_of_row w2 w.heap.size 0 _ _ _ hb3]; rfl); have c2 : w2.cell? ⟨w.heap.size, 2, none⟩ = some (.int .i64 0) := (by rw [cell_of_row w2 w.heap.size 2 _ _ _ hb3]; rfl); have c3 : w2.cell? ⟨w.heap.size, 3, none⟩ = some (.int .i64 0) := (by rw [cell_of_row w2 w.heap.size 3 _ _ _ hb3]; rfl); have c4 : w2.cell? ⟨w.heap.size, 4, none⟩ = some (.int .i64 width) := (by rw [cell_of_row w2 w.heap.size 4 _ _ _ hb3]; rfl); have c5 : w2.cell? ⟨w.heap.size, 5, none⟩ = some (.int .i64 count) := (by rw [cell_of_row w2 w.heap.size 5 _ _ _ hb3]; rfl); have HG3 := Aside0.mk hg3; have HB3 := Aside0.mk hb3; clear hg3 hb3) | ((with_reducible refine gload 123 rfl ?_); refine wpList_load_blk rfl 123 _ rfl w1.heap.size #[.pointer (some ⟨w.heap.size, 0, none⟩), .int .i64 1, .int .i64 2, .pointer (some ⟨w.heap.size, 1, none⟩), .int .i64 1, .int .i64 1048576, .pointer (some ⟨w.heap.size, 4, none⟩), .int .i64 1, .int .i64 1048576, .pointer (some ⟨w.heap.size, 5, none⟩), .int .i64 1, .int .i64 32, .pointer (some ⟨w.heap.size, 6, none⟩), .int .i64 1, .int .i64 1000, .pointer (some ⟨w.heap.size, 7, none⟩), .int .i64 1, .int .i64 64, .pointer (some ⟨w.heap.size, 8, none⟩), .int .i64 0, .int .i64 1000, .pointer (some ⟨w.heap.size, 9, none⟩), .int .i64 1, .int .i64 1000] 123 (0, 0) rfl HG3.out _ Try.underlying123 rfl (by kernel_rfl) ?_))
  have pol := Aside0.mk (pol_window cap width count keys slots every seg)
  have ru := @run_index_arr Try.prog 123 122 8 3 Try.underlying123 info_field _ Try.underlying122 rfl #[.pointer (some ⟨w.heap.size, 0, none⟩), .int .i64 1, .int .i64 2, .pointer (some ⟨w.heap.size, 1, none⟩), .int .i64 1, .int .i64 1048576, .pointer (some ⟨w.heap.size, 4, none⟩), .int .i64 1, .int .i64 1048576, .pointer (some ⟨w.heap.size, 5, none⟩), .int .i64 1, .int .i64 32, .pointer (some ⟨w.heap.size, 6, none⟩), .int .i64 1, .int .i64 1000, .pointer (some ⟨w.heap.size, 7, none⟩), .int .i64 1, .int .i64 64, .pointer (some ⟨w.heap.size, 8, none⟩), .int .i64 0, .int .i64 1000, .pointer (some ⟨w.heap.size, 9, none⟩), .int .i64 1, .int .i64 1000]
  have RU := Aside0.mk ru
  clear ru
  have base : Aside0 (w2.heap[w.heap.size]? = _ ∧ Below w.heap.size w w2 ∧ w.heap.size < w2.heap.size) := ⟨HB3.out, hB3, hs3⟩
  clear c0 c2 c3 c4 c5 hB3 hs3 HG3 HB3
  go_loopw [44] (fun i wr => ∃ k : Nat, k ≤ 8 ∧ i = .int .i64 (k : Int) ∧ (∀ j, j < k → loL.getD j 0 ≤ ([2, cap, width, count, keys, slots, every, seg] : List Int).getD j 0 ∧ ([2, cap, width, count, keys, slots, every, seg] : List Int).getD j 0 ≤ (hiL 2).getD j 0) ∧ Aside0 (wr.heap[w.heap.size]? = some (.cells #[.int .i64 2, .int .i64 cap, .int .i64 0, .int .i64 0, .int .i64 width, .int .i64 count, .int .i64 keys, .int .i64 slots, .int .i64 every, .int .i64 seg] 23 (0, 0)) ∧ Below w.heap.size w wr ∧ w.heap.size < wr.heap.size)) (fun i _ => 8 - (intOf i).toNat)
  case atStart => exact ⟨0, by omega, rfl, fun j hj => absurd hj (by omega), base⟩
  case round =>
    obtain ⟨k, hk, rfl, hall, BS⟩ := hrel
    clear base
    have HALL := Aside0.mk hall
    clear hall
    by_cases hlt : k < 8
    · have hx := fun W => (RU.out k hlt W).trans (by rw [cut_window _ k hlt])
      have hc := cell_window cap width count keys slots every seg k hlt
      generalize hf : (foL 2).getD k 0 = f at hx hc
      generalize hlo : loL.getD k 0 = lo at hx
      generalize hhi : (hiL 2).getD k 0 = hi at hx
      generalize hv : ([2, cap, width, count, keys, slots, every, seg] : List Int).getD k 0 = v at hc
      have cv : wr.cell? ⟨w.heap.size, f, none⟩ = some (.int .i64 v) := by rw [cell_of_row wr w.heap.size f _ _ _ BS.out.1]; exact hc
      have HV := Aside0.mk (And.intro hlo (And.intro hhi hv))
      clear hf hlo hhi hv hc RU
      by_cases hlow : v < lo
      · have d1 : decide (v < lo) = true := decide_eq_true hlow
        go_wp2_with ((with_reducible refine gstore 122 rfl ?_); refine wpList_store_blk rfl 122 _ _ rfl wr.heap.size 0 #[.pointer none, .int .i64 0, .int .i64 0] 122 #[.pointer (some ⟨w.heap.size, f, none⟩), .int .i64 lo, .int .i64 hi] rfl rfl (heap_alloc_new wr _) (by simp) (by kernel_rfl) (by simp [Value.oneCell']) ?_; intro w4 hg4 hO4; have hs4 : wr.heap.size < w4.heap.size := (by rw [hO4.size]; simp); have hg5 : w4.heap[wr.heap.size]? = some (.cells #[.pointer (some ⟨w.heap.size, f, none⟩), .int .i64 lo, .int .i64 hi] 122 (0, 0)) := (hg4.trans (by rw [splice_whole (by rfl)])); have e0 : w4.cell? ⟨wr.heap.size, 0, none⟩ = some (.pointer (some ⟨w.heap.size, f, none⟩)) := (by rw [cell_of_row w4 _ 0 _ _ _ hg5]; rfl); have e1 : w4.cell? ⟨wr.heap.size, 1, none⟩ = some (.int .i64 lo) := (by rw [cell_of_row w4 _ 1 _ _ _ hg5]; rfl); have e2 : w4.cell? ⟨wr.heap.size, 2, none⟩ = some (.int .i64 hi) := (by rw [cell_of_row w4 _ 2 _ _ _ hg5]; rfl); have hl4 : w.heap.size < wr.heap.size := BS.out.2.2; have hbb := (hO4.other w.heap.size (by omega)).trans ((Below.heap_alloc wr _ _ hl4).trans BS.out.1); have BS4 : Aside0 (w4.heap[w.heap.size]? = some (.cells #[.int .i64 2, .int .i64 cap, .int .i64 0, .int .i64 0, .int .i64 width, .int .i64 count, .int .i64 keys, .int .i64 slots, .int .i64 every, .int .i64 seg] 23 (0, 0)) ∧ Below w.heap.size w w4 ∧ w.heap.size < w4.heap.size) := ⟨hbb, (BS.out.2.1.alloc (Nat.le_of_lt hl4) _).trans (hO4.below (Nat.le_of_lt hl4)), (by omega)⟩; have cv4 : w4.cell? ⟨w.heap.size, f, none⟩ = some (.int .i64 v) := (by rw [← cv]; unfold World.cell?; rw [hbb, BS.out.1]); clear hg4 hO4 hs4 hg5 hl4 hbb)
        go_quiet (fail)
        go_wp2
        go_ret
        exact ⟨(by rw [polE_bad (fun h => by have h1 := (pol.out.1 h) k hlt; have h2 := HV.out; omega)]; rfl), pw_below_drewN BS4.out.2.1 _⟩
      · have d1 : decide (v < lo) = false := decide_eq_false hlow
        by_cases hhigh : hi < v
        · have d2 : decide (hi < v) = true := decide_eq_true hhigh
          go_wp2_with ((with_reducible refine gstore 122 rfl ?_); refine wpList_store_blk rfl 122 _ _ rfl wr.heap.size 0 #[.pointer none, .int .i64 0, .int .i64 0] 122 #[.pointer (some ⟨w.heap.size, f, none⟩), .int .i64 lo, .int .i64 hi] rfl rfl (heap_alloc_new wr _) (by simp) (by kernel_rfl) (by simp [Value.oneCell']) ?_; intro w4 hg4 hO4; have hs4 : wr.heap.size < w4.heap.size := (by rw [hO4.size]; simp); have hg5 : w4.heap[wr.heap.size]? = some (.cells #[.pointer (some ⟨w.heap.size, f, none⟩), .int .i64 lo, .int .i64 hi] 122 (0, 0)) := (hg4.trans (by rw [splice_whole (by rfl)])); have e0 : w4.cell? ⟨wr.heap.size, 0, none⟩ = some (.pointer (some ⟨w.heap.size, f, none⟩)) := (by rw [cell_of_row w4 _ 0 _ _ _ hg5]; rfl); have e1 : w4.cell? ⟨wr.heap.size, 1, none⟩ = some (.int .i64 lo) := (by rw [cell_of_row w4 _ 1 _ _ _ hg5]; rfl); have e2 : w4.cell? ⟨wr.heap.size, 2, none⟩ = some (.int .i64 hi) := (by rw [cell_of_row w4 _ 2 _ _ _ hg5]; rfl); have hl4 : w.heap.size < wr.heap.size := BS.out.2.2; have hbb := (hO4.other w.heap.size (by omega)).trans ((Below.heap_alloc wr _ _ hl4).trans BS.out.1); have BS4 : Aside0 (w4.heap[w.heap.size]? = some (.cells #[.int .i64 2, .int .i64 cap, .int .i64 0, .int .i64 0, .int .i64 width, .int .i64 count, .int .i64 keys, .int .i64 slots, .int .i64 every, .int .i64 seg] 23 (0, 0)) ∧ Below w.heap.size w w4 ∧ w.heap.size < w4.heap.size) := ⟨hbb, (BS.out.2.1.alloc (Nat.le_of_lt hl4) _).trans (hO4.below (Nat.le_of_lt hl4)), (by omega)⟩; have cv4 : w4.cell? ⟨w.heap.size, f, none⟩ = some (.int .i64 v) := (by rw [← cv]; unfold World.cell?; rw [hbb, BS.out.1]); clear hg4 hO4 hs4 hg5 hl4 hbb)
          go_quiet (fail)
          go_wp2
          go_ret
          exact ⟨(by rw [polE_bad (fun h => by have h1 := (pol.out.1 h) k hlt; have h2 := HV.out; omega)]; rfl), pw_below_drewN BS4.out.2.1 _⟩
        · have d2 : decide (hi < v) = false := decide_eq_false hhigh
          go_wp2_with ((with_reducible refine gstore 122 rfl ?_); refine wpList_store_blk rfl 122 _ _ rfl wr.heap.size 0 #[.pointer none, .int .i64 0, .int .i64 0] 122 #[.pointer (some ⟨w.heap.size, f, none⟩), .int .i64 lo, .int .i64 hi] rfl rfl (heap_alloc_new wr _) (by simp) (by kernel_rfl) (by simp [Value.oneCell']) ?_; intro w4 hg4 hO4; have hs4 : wr.heap.size < w4.heap.size := (by rw [hO4.size]; simp); have hg5 : w4.heap[wr.heap.size]? = some (.cells #[.pointer (some ⟨w.heap.size, f, none⟩), .int .i64 lo, .int .i64 hi] 122 (0, 0)) := (hg4.trans (by rw [splice_whole (by rfl)])); have e0 : w4.cell? ⟨wr.heap.size, 0, none⟩ = some (.pointer (some ⟨w.heap.size, f, none⟩)) := (by rw [cell_of_row w4 _ 0 _ _ _ hg5]; rfl); have e1 : w4.cell? ⟨wr.heap.size, 1, none⟩ = some (.int .i64 lo) := (by rw [cell_of_row w4 _ 1 _ _ _ hg5]; rfl); have e2 : w4.cell? ⟨wr.heap.size, 2, none⟩ = some (.int .i64 hi) := (by rw [cell_of_row w4 _ 2 _ _ _ hg5]; rfl); have hl4 : w.heap.size < wr.heap.size := BS.out.2.2; have hbb := (hO4.other w.heap.size (by omega)).trans ((Below.heap_alloc wr _ _ hl4).trans BS.out.1); have BS4 : Aside0 (w4.heap[w.heap.size]? = some (.cells #[.int .i64 2, .int .i64 cap, .int .i64 0, .int .i64 0, .int .i64 width, .int .i64 count, .int .i64 keys, .int .i64 slots, .int .i64 every, .int .i64 seg] 23 (0, 0)) ∧ Below w.heap.size w w4 ∧ w.heap.size < w4.heap.size) := ⟨hbb, (BS.out.2.1.alloc (Nat.le_of_lt hl4) _).trans (hO4.below (Nat.le_of_lt hl4)), (by omega)⟩; have cv4 : w4.cell? ⟨w.heap.size, f, none⟩ = some (.int .i64 v) := (by rw [← cv]; unfold World.cell?; rw [hbb, BS.out.1]); clear hg4 hO4 hs4 hg5 hl4 hbb)
          go_quiet (fail)
          go_wp2
          have hnext : ∀ j, j < k + 1 → loL.getD j 0 ≤ ([2, cap, width, count, keys, slots, every, seg] : List Int).getD j 0 ∧ ([2, cap, width, count, keys, slots, every, seg] : List Int).getD j 0 ≤ (hiL 2).getD j 0 := fun j hj => by
            rcases Nat.lt_or_ge j k with h | h
            · exact HALL.out j h
            · obtain rfl : j = k := by omega
              have h2 := HV.out
              omega
          go_roundw
          case rel => exact ⟨k + 1, by omega, by go_num, hnext, ⟨BS4.out.1, pw_below_drewN BS4.out.2.1 _, BS4.out.2.2⟩⟩
          case measure => simp [intOf]; omega
    · obtain rfl : k = 8 := by omega
      go_wp2_with fail
      go_ret
      exact ⟨(by rw [polE_ok (pol.out.2 HALL.out)]; rfl), BS.out.2.1⟩
end Go.Proofs.Ytnodnpenlplleaa.Own
/- policy.Right answers OK (0) or ErrPolicy (40), as the plain test polB says; nothing that was there has turned. -/
namespace Go.Proofs.Ytnodnpenlplleaa.Own
open Go.RowKit Go.Proofs.YtnodnpenlplleaaW.PrintWords Go.Proofs.YtnodnpenlplleaaW.PrintLast
set_option linter.unusedVariables false
set_option linter.unusedSimpArgs false

theorem right_any (kind cap num den width count keys slots every seg : Int) (w : World) :
    Calls Try.prog 38 #[.agg #[.int .i64 kind, .int .i64 cap, .int .i64 num, .int .i64 den, .int .i64 width, .int .i64 count, .int .i64 keys, .int .i64 slots, .int .i64 every, .int .i64 seg]] w fun e w' => e = .returned (.int .i64 (polE kind cap num den width count keys slots every seg)) ∧ Below w.heap.size w w' := by
  by_cases k1 : kind = 1
  · subst k1
    by_cases z1 : width = 0
    · by_cases z2 : count = 0
      · subst z1; subst z2
        exact right_bucket_c cap num den keys slots every seg w
      · refine (right_bucket_b cap num den width count keys slots every seg w (by simp [z1]) (by simp [z2])).mono fun e w' h => ⟨?_, h.2⟩
        rw [polE_bad (fun h => by unfold polB at h; rw [decide_eq_true_iff] at h; omega)]; exact h.1
    · refine (right_bucket_a cap num den width count keys slots every seg w (by simp [z1])).mono fun e w' h => ⟨?_, h.2⟩
      rw [polE_bad (fun h => by unfold polB at h; rw [decide_eq_true_iff] at h; omega)]; exact h.1
  · by_cases k2 : kind = 2
    · subst k2
      by_cases z1 : num = 0
      · by_cases z2 : den = 0
        · subst z1; subst z2
          exact right_window_c cap width count keys slots every seg w
        · refine (right_window_b cap num den width count keys slots every seg w (by simp [z1]) (by simp [z2])).mono fun e w' h => ⟨?_, h.2⟩
          rw [polE_bad (fun h => by unfold polB at h; rw [decide_eq_true_iff] at h; omega)]; exact h.1
      · refine (right_window_a cap num den width count keys slots every seg w (by simp [z1])).mono fun e w' h => ⟨?_, h.2⟩
        rw [polE_bad (fun h => by unfold polB at h; rw [decide_eq_true_iff] at h; omega)]; exact h.1
    · refine (right_other kind cap num den width count keys slots every seg w (by simp [k1]) (by simp [k2])).mono fun e w' h => ⟨?_, h.2⟩
      rw [polE_bad (fun h => by unfold polB at h; rw [decide_eq_true_iff] at h; omega)]; exact h.1
end Go.Proofs.Ytnodnpenlplleaa.Own
