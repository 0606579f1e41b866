/- exact.Owed: what a key owes at a tick, by a list. -/
import Derived.Test.YtmlpahjmebfgbaaSpec
namespace Go.Proofs.Ytmlpahjmebfgbaa.Own
open Go.RowKit Go.Proofs.YtmlpahjmebfgbaaW.PrintWords Go.Proofs.YtmlpahjmebfgbaaW.PrintLast Go.Proofs.YtmlpahjmebfgbaaW.PrintMore Go.Proofs.Ytmlpahjmebfgbaa.PEx
set_option linter.unusedVariables false
set_option linter.unusedSimpArgs false

abbrev tickB (n : Int) : Bool := decide (0 ≤ n ∧ n ≤ 1099511627776)
theorem tick_fn (n : Int) (w : World) : Calls Try.prog 33 #[.int .i64 n] w fun e w' => e = .returned (.bool (tickB n)) ∧ w' = w := by
  by_cases h : 0 ≤ n
  · refine calls_of_wp Try.func33 rfl ?_
    simp only [Try.ntmps33, List.size_toArray, List.length_cons, List.length_nil, Nat.reduceAdd, Nat.reduceSub, Array.replicate_succ, Array.replicate_zero, List.push_toArray, List.append_toArray, List.nil_append, List.cons_append]
    have e : tickB n = decide (n ≤ 1099511627776) := by simp [tickB, h]
    go_wp2
    go_ret
    exact ⟨by simp [e], rfl⟩
  · have e : tickB n = false := by simp [tickB, h]
    refine calls_of_wp Try.func33 rfl ?_
    simp only [Try.ntmps33, List.size_toArray, List.length_cons, List.length_nil, Nat.reduceAdd, Nat.reduceSub, Array.replicate_succ, Array.replicate_zero, List.push_toArray, List.append_toArray, List.nil_append, List.cons_append]
    rw [e]
    clear e
    go_wp2
    go_ret
    exact ⟨rfl, rfl⟩

theorem info23 : (Try.prog.info? 23).map (·.size) = some 10 := by kernel_rfl

/-- What a key owes at a tick, by a list. -/
def OwedX (kind cap num den width count keys slots every seg : Int) (l : List S42) (key : ByteArray) (at_ : Int) : Int :=
  if rightX kind cap num den width count keys slots every seg l = 0 then (if tickB at_ = true then owedX kind num den width count at_ (own key l) else 0) else 0

set_option maxRecDepth 100000 in
set_option maxHeartbeats 4000000 in
theorem Owed_fn (a0_0 a0_1 a0_2 a0_3 a0_4 a0_5 a0_6 a0_7 a0_8 a0_9 : Int) (A : Option Addr) (c : Nat) (l : List S42) (key : ByteArray) (at_ : Int) (w : World) (hr : Kd.C k42 w A l.length l) (hc : l.length ≤ c) (hk : key.size ≤ maxLen) :
    Calls Try.prog 12 #[.agg #[.int .i64 a0_0, .int .i64 a0_1, .int .i64 a0_2, .int .i64 a0_3, .int .i64 a0_4, .int .i64 a0_5, .int .i64 a0_6, .int .i64 a0_7, .int .i64 a0_8, .int .i64 a0_9], .slice A l.length c, .string key, .int .i64 at_] w fun e w' =>
      e = .returned (.int .i64 (OwedX a0_0 a0_1 a0_2 a0_3 a0_4 a0_5 a0_6 a0_7 a0_8 a0_9 l key at_)) ∧ Below w.heap.size w w' := by
  have hright := right_eq a0_0 a0_1 a0_2 a0_3 a0_4 a0_5 a0_6 a0_7 a0_8 a0_9 l
  by_cases hz : rightX a0_0 a0_1 a0_2 a0_3 a0_4 a0_5 a0_6 a0_7 a0_8 a0_9 l = 0
  · rw [hz] at hright
    have hg := right_good.1 hz
    have hbs : ∀ r ∈ l, r.f1.size ≤ maxLen := fun r hr => by
      obtain ⟨_, _, _, h, _⟩ := recE_zero (hg.recs r hr)
      simp only [maxLen]; omega
    by_cases ht : tickB at_ = true
    · have hout : OwedX a0_0 a0_1 a0_2 a0_3 a0_4 a0_5 a0_6 a0_7 a0_8 a0_9 l key at_ = owedX a0_0 a0_2 a0_3 a0_4 a0_5 at_ (own key l) := by rw [OwedX, if_pos hz, if_pos ht]
      rw [hout]
      clear hout
      refine calls_of_wp Try.func12 rfl ?_
      simp only [Try.ntmps12, List.size_toArray, List.length_cons, List.length_nil, Nat.reduceAdd, Nat.reduceSub, Array.replicate_succ, Array.replicate_zero, List.push_toArray, List.append_toArray, List.nil_append, List.cons_append]
      go_wp2_with fail
      refine (read_ok (l.length + 1) a0_0 a0_1 a0_2 a0_3 a0_4 a0_5 a0_6 a0_7 a0_8 a0_9 A c l _ (Kd.C_alloc hr _) hc hright hg.len hbs).mono ?_
      rintro e w1 ⟨b, rfl, hb, hbk, hbw⟩
      have g0 := (hbw.block w.heap.size (by simp)).trans (heap_alloc_new w _)
      have hb1 : Below w.heap.size w w1 := ((Below.refl _ w).alloc (Nat.le_refl _) _).trans (hbw.mono (by simp))
      clear hbw hright
      go_wp2_with fail
      refine (tick_fn at_ _).mono ?_
      rintro e w2 ⟨rfl, rfl⟩
      rw [ht]
      obtain ⟨Ao, co, hlook, hco, hCo⟩ := hbk.look hk
      have hol := own_length key l
      have hokr := good_okR hg
      have hown : ∀ r ∈ own key l, okR r := fun r h => hokr r (own_mem h).1
      have hpol := (pol_ok hg.pol).1
      have htt : 0 ≤ at_ ∧ at_ ≤ 1099511627776 := of_decide_eq_true ht
      have hll := hg.len
      clear hbk hg hokr hbs ht hz hr
      go_wp2_with (first | ((with_reducible refine gload 23 rfl ?_); refine wpList_load_blk rfl 23 _ rfl w.heap.size _ 23 _ rfl g0 _ Try.underlying23 rfl info23 ?_) | fail)
      refine (owed_any a0_0 a0_1 a0_2 a0_3 a0_4 a0_5 a0_6 a0_7 a0_8 a0_9 at_ Ao co (own key l) _ hCo hpol hown htt.1 htt.2 (by omega)).mono ?_
      rintro e w3 ⟨rfl, hb3⟩
      have hend := hb1.trans (hb3.mono hb1.size)
      clear hb1 hb3 hlook hCo hown
      go_wp2_with fail
      go_ret
      exact ⟨rfl, hend⟩
    · have hout : OwedX a0_0 a0_1 a0_2 a0_3 a0_4 a0_5 a0_6 a0_7 a0_8 a0_9 l key at_ = 0 := by rw [OwedX, if_pos hz, if_neg ht]
      have hf : tickB at_ = false := by simpa using ht
      rw [hout]
      clear hout
      refine calls_of_wp Try.func12 rfl ?_
      simp only [Try.ntmps12, List.size_toArray, List.length_cons, List.length_nil, Nat.reduceAdd, Nat.reduceSub, Array.replicate_succ, Array.replicate_zero, List.push_toArray, List.append_toArray, List.nil_append, List.cons_append]
      go_wp2_with fail
      refine (read_ok (l.length + 1) a0_0 a0_1 a0_2 a0_3 a0_4 a0_5 a0_6 a0_7 a0_8 a0_9 A c l _ (Kd.C_alloc hr _) hc hright hg.len hbs).mono ?_
      rintro e w1 ⟨b, rfl, hb, hbk, hbw⟩
      have hb1 : Below w.heap.size w w1 := ((Below.refl _ w).alloc (Nat.le_refl _) _).trans (hbw.mono (by simp))
      clear hbw hright
      go_wp2_with fail
      refine (tick_fn at_ _).mono ?_
      rintro e w2 ⟨rfl, rfl⟩
      rw [hf]
      clear hbk hg hbs ht hz hr
      go_wp2_with fail
      go_ret
      exact ⟨rfl, hb1⟩
  · have hout : OwedX a0_0 a0_1 a0_2 a0_3 a0_4 a0_5 a0_6 a0_7 a0_8 a0_9 l key at_ = 0 := by rw [OwedX, if_neg hz]
    rw [hout]
    clear hout
    generalize rightX a0_0 a0_1 a0_2 a0_3 a0_4 a0_5 a0_6 a0_7 a0_8 a0_9 l = er at hright hz
    refine calls_of_wp Try.func12 rfl ?_
    simp only [Try.ntmps12, List.size_toArray, List.length_cons, List.length_nil, Nat.reduceAdd, Nat.reduceSub, Array.replicate_succ, Array.replicate_zero, List.push_toArray, List.append_toArray, List.nil_append, List.cons_append]
    go_wp2_with fail
    refine (read_bad (l.length + 1) a0_0 a0_1 a0_2 a0_3 a0_4 a0_5 a0_6 a0_7 a0_8 a0_9 A c l er _ (Kd.C_alloc hr _) hc hright hz).mono ?_
    rintro e w1 ⟨rfl, hbw⟩
    have hb1 : Below w.heap.size w w1 := ((Below.refl _ w).alloc (Nat.le_refl _) _).trans (hbw.mono (by simp))
    clear hbw hright hr
    go_wp2_with fail
    go_ret
    exact ⟨rfl, hb1⟩
end Go.Proofs.Ytmlpahjmebfgbaa.Own
