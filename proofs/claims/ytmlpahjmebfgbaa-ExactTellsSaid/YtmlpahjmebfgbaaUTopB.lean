/- Lemmas for a claim of this seat: texts of this session and of the kit's print, without what this claim does not use. -/
import Derived.Test.YtmlpahjmebfgbaaUHold
namespace Go.Proofs.Ytmlpahjmebfgbaa.Own
open Go.RowKit Go.Proofs.YtmlpahjmebfgbaaW.PrintWords Go.Proofs.YtmlpahjmebfgbaaW.PrintLast Go.Proofs.YtmlpahjmebfgbaaW.PrintMore Go.Proofs.Ytmlpahjmebfgbaa.PEx
set_option linter.unusedVariables false
set_option linter.unusedSimpArgs false

instance klt_dec (a b : ByteArray) : Decidable (klt a b) := inferInstanceAs (Decidable (a.data.toList < b.data.toList))
theorem klt_total {a b : ByteArray} (h : ¬ klt a b) (hne : a ≠ b) : klt b a := by
  have h1 : b.data.toList ≤ a.data.toList := h
  rcases List.le_iff_lt_or_eq.1 h1 with h2 | h2
  · exact h2
  · exact absurd (by cases a; cases b; simpa using h2.symm) hne
/-- A key into a row in order, once. -/
def insK : List ByteArray → ByteArray → List ByteArray
  | [], k => [k]
  | x :: l, k => if klt x k then x :: insK l k else if x = k then x :: l else k :: x :: l
theorem insK_mem (k y : ByteArray) : ∀ l : List ByteArray, y ∈ insK l k ↔ y = k ∨ y ∈ l
  | [] => by simp [insK]
  | x :: l => by
    unfold insK
    split
    · rw [List.mem_cons, insK_mem k y l, List.mem_cons]
      constructor
      · rintro (h | h | h)
        · exact .inr (.inl h)
        · exact .inl h
        · exact .inr (.inr h)
      · rintro (h | h | h)
        · exact .inr (.inl h)
        · exact .inl h
        · exact .inr (.inr h)
    · split
      · rename_i h; subst h
        constructor
        · exact fun h => .inr h
        · rintro (h | h)
          · subst h; simp
          · exact h
      · simp
theorem insK_sorted (k : ByteArray) : ∀ l : List ByteArray, l.Pairwise klt → (insK l k).Pairwise klt
  | [], _ => by simp [insK]
  | x :: l, h => by
    obtain ⟨h1, h2⟩ := List.pairwise_cons.1 h
    unfold insK
    split
    · rename_i hx
      refine List.pairwise_cons.2 ⟨fun y hy => ?_, insK_sorted k l h2⟩
      rcases (insK_mem k y l).1 hy with e | hy
      · subst e; exact hx
      · exact h1 y hy
    · rename_i hx
      split
      · exact h
      · rename_i hne
        refine List.pairwise_cons.2 ⟨fun y hy => ?_, h⟩
        have hk := klt_total hx hne
        rcases List.mem_cons.1 hy with e | hy
        · subst e; exact hk
        · exact klt_trans hk (h1 y hy)
/-- The keys that took something. -/
def keysL (xs : List S42) : List ByteArray := xs.foldl (fun ks r => if r.f3 = 1 then insK ks r.f1 else ks) []
theorem keysL_snoc (xs : List S42) (r : S42) : keysL (xs ++ [r]) = if r.f3 = 1 then insK (keysL xs) r.f1 else keysL xs := by simp [keysL]
theorem keysL_of (xs : List S42) : KeysOf xs (keysL xs) := by
  refine snocInd (P := fun xs => KeysOf xs (keysL xs)) ⟨by simp [keysL], fun key => by simp [keysL, own]⟩ (fun l r ih => ?_) xs
  rw [keysL_snoc]
  by_cases h : r.f3 = 1
  · rw [if_pos h]
    refine ⟨insK_sorted _ _ ih.sorted, fun key => ?_⟩
    rw [insK_mem, ih.mem key, own_snoc]
    by_cases hk : r.f1 = key
    · rw [if_pos ⟨hk, h⟩]; simp [hk]
    · rw [if_neg (by simp [hk])]
      constructor
      · rintro (e | e)
        · exact absurd e.symm hk
        · exact e
      · exact .inr
  · rw [if_neg h]
    refine ⟨ih.sorted, fun key => ?_⟩
    rw [ih.mem key, own_snoc, if_neg (by simp [h])]
theorem keys_unique {xs : List S42} {ks : List ByteArray} (h : KeysOf xs ks) : ks = keysL xs :=
  sorted_unique h.sorted (keysL_of xs).sorted (fun x => (h.mem x).trans ((keysL_of xs).mem x).symm)

/-- Who owes at a tick, by records. -/
def holdL (kind num den width count at_ : Int) (xs : List S42) : List ByteArray := (keysL xs).filter (owes kind num den width count at_ xs)
def HoldersX (kind cap num den width count keys slots every seg : Int) (l : List S42) (at_ : Int) : List ByteArray :=
  if rightX kind cap num den width count keys slots every seg l = 0 then (if tickB at_ = true then holdL kind num den width count at_ l else []) else []

theorem good_recs {kind cap num den width count keys slots every seg : Int} {l : List S42} (h : Good kind cap num den width count keys slots every seg l) : ∀ r ∈ l, okR r ∧ r.f1.size ≤ maxLen := fun r hr => by
  have := recE_zero (h.recs r hr)
  exact ⟨good_okR h r hr, by simp only [maxLen]; omega⟩

set_option maxRecDepth 100000 in
set_option maxHeartbeats 4000000 in
theorem Holders_fn (a0_0 a0_1 a0_2 a0_3 a0_4 a0_5 a0_6 a0_7 a0_8 a0_9 : Int) (A : Option Addr) (c : Nat) (l : List S42) (at_ : Int) (w : World) (hr : Kd.C k42 w A l.length l) (hc : l.length ≤ c) :
    Calls Try.prog 13 #[.agg #[.int .i64 a0_0, .int .i64 a0_1, .int .i64 a0_2, .int .i64 a0_3, .int .i64 a0_4, .int .i64 a0_5, .int .i64 a0_6, .int .i64 a0_7, .int .i64 a0_8, .int .i64 a0_9], .slice A l.length c, .int .i64 at_] w fun e w' =>
      ∃ v, e = .returned v ∧ Kd.R Kd.string 9 w' w.heap.size (fun _ => True) v (HoldersX a0_0 a0_1 a0_2 a0_3 a0_4 a0_5 a0_6 a0_7 a0_8 a0_9 l at_) ∧ Below w.heap.size w w' := by
  have hright := right_eq a0_0 a0_1 a0_2 a0_3 a0_4 a0_5 a0_6 a0_7 a0_8 a0_9 l
  by_cases hz : rightX a0_0 a0_1 a0_2 a0_3 a0_4 a0_5 a0_6 a0_7 a0_8 a0_9 l = 0
  · rw [hz] at hright
    have hg := right_good.1 hz
    have hrec := good_recs hg
    by_cases ht : tickB at_ = true
    · have hout : HoldersX a0_0 a0_1 a0_2 a0_3 a0_4 a0_5 a0_6 a0_7 a0_8 a0_9 l at_ = holdL a0_0 a0_2 a0_3 a0_4 a0_5 at_ l := by rw [HoldersX, if_pos hz, if_pos ht]
      rw [hout]
      clear hout
      refine calls_of_wp Try.func13 rfl ?_
      simp only [Try.ntmps13, List.size_toArray, List.length_cons, List.length_nil, Nat.reduceAdd, Nat.reduceSub, Array.replicate_succ, Array.replicate_zero, List.push_toArray, List.append_toArray, List.nil_append, List.cons_append]
      go_wp2_with fail
      refine (read_ok (l.length + 1) a0_0 a0_1 a0_2 a0_3 a0_4 a0_5 a0_6 a0_7 a0_8 a0_9 A c l _ (Kd.C_alloc hr _) hc hright hg.len (fun r h => (hrec r h).2)).mono ?_
      rintro e w1 ⟨b, rfl, hb, hbk, hbw⟩
      have g0 := (hbw.block w.heap.size (by simp)).trans (heap_alloc_new w _)
      have hb1 : Below w.heap.size w w1 := ((Below.refl _ w).alloc (Nat.le_refl _) _).trans (hbw.mono (by simp))
      clear hbw hright
      go_wp2_with fail
      refine (tick_fn at_ _).mono ?_
      rintro e w2 ⟨rfl, rfl⟩
      rw [ht]
      have hpol := (pol_ok hg.pol).1
      have htt : 0 ≤ at_ ∧ at_ ≤ 1099511627776 := of_decide_eq_true ht
      have hll := hg.len
      have HBK := Aside0.mk hbk
      clear hbk hg ht hz hr
      go_wp2_with (first | ((with_reducible refine gload 23 rfl ?_); refine wpList_load_blk rfl 23 _ rfl w.heap.size _ 23 _ rfl g0 _ Try.underlying23 rfl info23 ?_) | fail)
      refine (holders_fn a0_0 a0_1 a0_2 a0_3 a0_4 a0_5 a0_6 a0_7 a0_8 a0_9 b l at_ _ HBK.out hpol hrec htt.1 htt.2 hll).mono ?_
      rintro e w3 ⟨v, ks, rfl, hks, hR, hb3⟩
      have hend := hb1.trans (hb3.mono hb1.size)
      have hRR : Kd.R Kd.string 9 w3 w.heap.size (fun _ => True) v (holdL a0_0 a0_2 a0_3 a0_4 a0_5 at_ l) := by
        rw [holdL, ← keys_unique hks]
        exact Kd.R_lower hR hb1.size
      have HRR := Aside0.mk hRR
      clear hb1 hb3 hR hks hRR
      go_wp2_with fail
      go_ret
      exact ⟨_, rfl, HRR.out, hend⟩
    · have hout : HoldersX a0_0 a0_1 a0_2 a0_3 a0_4 a0_5 a0_6 a0_7 a0_8 a0_9 l at_ = [] := by rw [HoldersX, if_pos hz, if_neg ht]
      have hf : tickB at_ = false := by simpa using ht
      rw [hout]
      clear hout
      refine calls_of_wp Try.func13 rfl ?_
      simp only [Try.ntmps13, List.size_toArray, List.length_cons, List.length_nil, Nat.reduceAdd, Nat.reduceSub, Array.replicate_succ, Array.replicate_zero, List.push_toArray, List.append_toArray, List.nil_append, List.cons_append]
      go_wp2_with fail
      refine (read_ok (l.length + 1) a0_0 a0_1 a0_2 a0_3 a0_4 a0_5 a0_6 a0_7 a0_8 a0_9 A c l _ (Kd.C_alloc hr _) hc hright hg.len (fun r h => (hrec r h).2)).mono ?_
      rintro e w1 ⟨b, rfl, hb, hbk, hbw⟩
      have hb1 : Below w.heap.size w w1 := ((Below.refl _ w).alloc (Nat.le_refl _) _).trans (hbw.mono (by simp))
      clear hbw hright
      go_wp2_with fail
      refine (tick_fn at_ _).mono ?_
      rintro e w2 ⟨rfl, rfl⟩
      rw [hf]
      clear hbk hg hrec ht hz hr
      go_wp2_with fail
      go_ret
      exact ⟨_, rfl, Kd.R_nil _ _ _ _ _, hb1⟩
  · have hout : HoldersX a0_0 a0_1 a0_2 a0_3 a0_4 a0_5 a0_6 a0_7 a0_8 a0_9 l at_ = [] := by rw [HoldersX, if_neg hz]
    rw [hout]
    clear hout
    generalize rightX a0_0 a0_1 a0_2 a0_3 a0_4 a0_5 a0_6 a0_7 a0_8 a0_9 l = er at hright hz
    refine calls_of_wp Try.func13 rfl ?_
    simp only [Try.ntmps13, List.size_toArray, List.length_cons, List.length_nil, Nat.reduceAdd, Nat.reduceSub, Array.replicate_succ, Array.replicate_zero, List.push_toArray, List.append_toArray, List.nil_append, List.cons_append]
    go_wp2_with fail
    refine (read_bad (l.length + 1) a0_0 a0_1 a0_2 a0_3 a0_4 a0_5 a0_6 a0_7 a0_8 a0_9 A c l er _ (Kd.C_alloc hr _) hc hright hz).mono ?_
    rintro e w1 ⟨rfl, hbw⟩
    have hb1 : Below w.heap.size w w1 := ((Below.refl _ w).alloc (Nat.le_refl _) _).trans (hbw.mono (by simp))
    clear hbw hright hr
    go_wp2_with fail
    go_ret
    exact ⟨_, rfl, Kd.R_nil _ _ _ _ _, hb1⟩
end Go.Proofs.Ytmlpahjmebfgbaa.Own
