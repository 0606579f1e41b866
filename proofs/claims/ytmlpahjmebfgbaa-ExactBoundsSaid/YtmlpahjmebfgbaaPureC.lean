/- Plain laws on room: by the verdicts that are due no key took more than there was room for. -/
import Derived.Test.YtmlpahjmebfgbaaPureB
namespace Go.Proofs.Ytmlpahjmebfgbaa.Own
open Go.RowKit Go.Proofs.YtmlpahjmebfgbaaW.PrintWords Go.Proofs.Ytmlpahjmebfgbaa.PEx
set_option linter.unusedVariables false
set_option linter.unusedSimpArgs false

theorem seg_step {key : ByteArray} {R : List S42} {i j : Nat} (hij : i ≤ j) (hj : j < R.length) :
    own key ((R.take (j + 1)).drop i) = if (rd_T42 R (j : Int)).f1 = key ∧ (rd_T42 R (j : Int)).f3 = 1 then own key ((R.take j).drop i) ++ [rd_T42 R (j : Int)] else own key ((R.take j).drop i) := by
  rw [take_rd R j hj, List.drop_append_of_le_length (by simp; omega), own_snoc]
theorem own_split (key : ByteArray) (R : List S42) {i j : Nat} (hij : i ≤ j) : own key (R.take j) = own key (R.take i) ++ own key ((R.take j).drop i) := by
  unfold own
  rw [← List.filter_append]
  congr 1
  have := List.take_append_drop i (R.take j)
  rw [List.take_take, Nat.min_eq_left hij] at this
  exact this.symm
theorem runV_ticks (kind cap num den width count keys : Int) (l : List S42) : (runV kind cap num den width count keys l).map (·.f0) = l.map (·.f0) := by
  refine snocInd (P := fun l => (runV kind cap num den width count keys l).map (·.f0) = l.map (·.f0)) rfl (fun l x ih => ?_) l
  rw [runV_snoc, List.map_append, List.map_append, ih]
  rfl
theorem runV_sorted (kind cap num den width count keys : Int) {l : List S42} (h : l.Pairwise (fun a b => a.f0 ≤ b.f0)) : (runV kind cap num den width count keys l).Pairwise (fun a b => a.f0 ≤ b.f0) := by
  have h1 : (l.map (·.f0)).Pairwise (· ≤ ·) := List.pairwise_map.2 h
  rw [← runV_ticks kind cap num den width count keys l] at h1
  exact List.pairwise_map.1 h1
theorem before_le {R : List S42} (h : R.Pairwise (fun a b => a.f0 ≤ b.f0)) {j : Nat} (hj : j < R.length) : ∀ r ∈ R.take j, r.f0 ≤ (rd_T42 R (j : Int)).f0 := by
  intro r hr
  have h1 : (R.take (j + 1)).Pairwise (fun a b => a.f0 ≤ b.f0) := h.sublist (List.take_sublist _ _)
  rw [take_rd R j hj] at h1
  exact (List.pairwise_append.1 h1).2.2 r hr _ (by simp)
theorem after_ge {R : List S42} (h : R.Pairwise (fun a b => a.f0 ≤ b.f0)) {i j : Nat} (hi : i < R.length) : ∀ r ∈ (R.take j).drop i, (rd_T42 R (i : Int)).f0 ≤ r.f0 := by
  intro r hr
  rw [List.drop_take] at hr
  have h1 := List.mem_of_mem_take hr
  have h2 : (R.drop i).Pairwise (fun a b => a.f0 ≤ b.f0) := h.sublist (List.drop_sublist _ _)
  rw [drop_rd R i hi] at h1 h2
  rcases List.mem_cons.1 h1 with e | h3
  · subst e; exact Int.le_refl _
  · exact (List.pairwise_cons.1 h2).1 r h3

theorem foldB_prefix (num den t : Int) (xs ys : List S42) : (foldB num den t xs).1 ≤ (foldB num den t (xs ++ ys)).1 := by
  refine snocInd (P := fun ys => (foldB num den t xs).1 ≤ (foldB num den t (xs ++ ys)).1) (by simp) (fun l x ih => ?_) ys
  rw [← List.append_assoc, foldB_snoc]
  simp only [stepB, mx]
  split <;> omega
theorem foldB_sum (num den t : Int) (xs : List S42) : (foldB num den t xs).2 = sumW xs * den := by
  refine snocInd (P := fun xs => (foldB num den t xs).2 = sumW xs * den) (by simp [foldB, sumW]) (fun l x ih => ?_) xs
  rw [foldB_snoc, sumW_snoc]
  simp only [stepB]
  rw [ih, Int.add_mul]
theorem sumW_reverse (xs : List S42) : sumW xs.reverse = sumW xs := by
  induction xs with
  | nil => rfl
  | cons x xs ih =>
    rw [List.reverse_cons, sumW_snoc, ih, show x :: xs = [x] ++ xs from rfl, sumW_append]
    simp [sumW]
    omega
theorem bucket_room {num den t ti : Int} (hn : 0 ≤ num) (s a : List S42) (hti : ti ≤ t) (hs : ∀ r ∈ s, ti ≤ r.f0) :
    sumW s * den ≤ (foldB num den t (a ++ s).reverse).1 + num * (t - ti) := by
  have hnn : 0 ≤ num * (t - ti) := Int.mul_nonneg hn (by omega)
  rw [List.reverse_append]
  cases s with
  | nil =>
    have := foldB_prefix num den t [] ([].reverse ++ a.reverse)
    simp [foldB, sumW] at this ⊢
    omega
  | cons r rest =>
    have h1 := foldB_prefix num den t (r :: rest).reverse a.reverse
    rw [List.reverse_cons] at h1
    have h2 : sumW (r :: rest) * den - num * (t - r.f0) ≤ (foldB num den t (rest.reverse ++ [r])).1 := by
      rw [foldB_snoc]
      simp only [stepB, mx]
      rw [foldB_sum, sumW_reverse, show r :: rest = [r] ++ rest from rfl, sumW_append, Int.add_mul]
      have : sumW [r] = r.f2 := by simp [sumW]
      rw [this]
      split <;> omega
    have h3 : num * (t - r.f0) ≤ num * (t - ti) := Int.mul_le_mul_of_nonneg_left (by have := hs r (by simp); omega) hn
    rw [List.reverse_cons]
    omega
theorem takeWhile_whole {α : Type} (p : α → Bool) : ∀ (a b : List α), (∀ x ∈ a, p x = true) → (a ++ b).takeWhile p = a ++ b.takeWhile p
  | [], b, _ => rfl
  | x :: a, b, h => by rw [List.cons_append, List.takeWhile_cons, h x (by simp), if_pos rfl, takeWhile_whole p a b (fun y hy => h y (by simp [hy]))]; rfl
theorem window_room {width count t : Int} (s a : List S42) (hs : ∀ r ∈ s, inW width count t r = true) (ha : ∀ r ∈ a, okR r) :
    sumW s ≤ sumW ((a ++ s).reverse.takeWhile (inW width count t)) := by
  rw [List.reverse_append, takeWhile_whole _ _ _ (fun r hr => hs r (by simpa using hr)), sumW_append, sumW_reverse]
  have := (sumW_bound (a.reverse.takeWhile (inW width count t)) (fun r hr => ha r (by simpa using (List.takeWhile_sublist _).subset hr))).1
  omega

theorem allow_room {kind cap num den width count keys slots every seg : Int} {l : List S42} (hg : Good kind cap num den width count keys slots every seg l) {i j : Nat} (hij : i ≤ j) (hj : j < l.length)
    (hk : (rd_T42 l (j : Int)).f1 = (rd_T42 l (i : Int)).f1) (hd : (rd_T42 (runV kind cap num den width count keys l) (j : Int)).f3 = 1) :
    (kind = 1 → sumW (own (rd_T42 l (i : Int)).f1 (((runV kind cap num den width count keys l).take (j + 1)).drop i)) * den ≤ cap * den + ((rd_T42 l (j : Int)).f0 - (rd_T42 l (i : Int)).f0) * num) ∧
    (kind = 2 → (rd_T42 l (j : Int)).f0 / width < (rd_T42 l (i : Int)).f0 / width + count → sumW (own (rd_T42 l (i : Int)).f1 (((runV kind cap num den width count keys l).take (j + 1)).drop i)) ≤ cap) := by
  have hRl := runV_length kind cap num den width count keys l
  have hRj := runV_rd kind cap num den width count keys l hj
  have hRi := runV_rd kind cap num den width count keys l (Nat.lt_of_le_of_lt hij hj)
  have hsort := runV_sorted kind cap num den width count keys hg.sorted
  have hokR := runV_ok kind cap num den width count keys l (good_recs hg)
  have hp := (pol_ok hg.pol).1
  generalize hR : runV kind cap num den width count keys l = R at *
  have f0j : (rd_T42 R (j : Int)).f0 = (rd_T42 l (j : Int)).f0 := by rw [hRj]; rfl
  have f1j : (rd_T42 R (j : Int)).f1 = (rd_T42 l (j : Int)).f1 := by rw [hRj]; rfl
  have f2j : (rd_T42 R (j : Int)).f2 = (rd_T42 l (j : Int)).f2 := by rw [hRj]; rfl
  have f0i : (rd_T42 R (i : Int)).f0 = (rd_T42 l (i : Int)).f0 := by rw [hRi]; rfl
  have hdue : dueX kind cap num den width count keys (R.take j) (rd_T42 l (j : Int)).f0 (rd_T42 l (j : Int)).f1 (rd_T42 l (j : Int)).f2 = 1 := by
    rw [hRj] at hd; exact hd
  rw [hk] at hdue
  have hroom : owedX kind num den width count (rd_T42 l (j : Int)).f0 (own (rd_T42 l (i : Int)).f1 (R.take j)) + (rd_T42 l (j : Int)).f2 * (if kind = 1 then den else 1) ≤ cap * (if kind = 1 then den else 1) := by
    unfold dueX at hdue
    generalize (if kind = 1 then den else 1) = u at hdue ⊢
    split at hdue
    · omega
    · split at hdue
      · assumption
      · omega
  have hle : ∀ r ∈ R.take j, r.f0 ≤ (rd_T42 l (j : Int)).f0 := fun r hr => by rw [← f0j]; exact before_le hsort (by omega) r hr
  have hti : (rd_T42 l (i : Int)).f0 ≤ (rd_T42 l (j : Int)).f0 := by
    rcases Nat.lt_or_ge i j with h | h
    · rw [← f0i]
      exact hle _ (by rw [show R.take j = R.take i ++ (R.take j).drop i from by
        have := List.take_append_drop i (R.take j)
        rw [List.take_take, Nat.min_eq_left hij] at this
        exact this.symm, List.drop_take, drop_rd R i (by omega), show j - i = (j - i - 1) + 1 from by omega, List.take_succ_cons]; simp)
    · have : i = j := by omega
      subst this; exact Int.le_refl _
  have hge : ∀ r ∈ own (rd_T42 l (i : Int)).f1 ((R.take j).drop i), (rd_T42 l (i : Int)).f0 ≤ r.f0 := fun r hr => by
    rw [← f0i]; exact after_ge hsort (by omega) r (own_mem hr).1
  rw [seg_step hij (by omega), if_pos ⟨by rw [f1j, hk], hd⟩, sumW_snoc, f2j]
  have hup := upto_all (l := own (rd_T42 l (i : Int)).f1 (R.take j)) (fun r hr => hle r (own_mem hr).1)
  rw [own_split _ R hij] at hup
  unfold owedX at hroom
  rw [own_split _ R hij, hup] at hroom
  constructor
  · intro hk1
    subst hk1
    obtain ⟨n1, n2, d1, d2⟩ : 1 ≤ num ∧ num ≤ 65536 ∧ 1 ≤ den ∧ den ≤ 65536 := by rcases hp with ⟨_, h⟩ | ⟨h, _⟩ <;> omega
    simp only [if_true] at hroom
    have hb := bucket_room (num := num) (den := den) (by omega) (own (rd_T42 l (i : Int)).f1 ((R.take j).drop i)) (own (rd_T42 l (i : Int)).f1 (R.take i)) hti hge
    rw [Int.add_mul, Int.mul_comm ((rd_T42 l (j : Int)).f0 - (rd_T42 l (i : Int)).f0) num]
    omega
  · intro hk2 hwin
    subst hk2
    obtain ⟨w1, c1⟩ : 1 ≤ width ∧ 1 ≤ count := by rcases hp with ⟨h, _⟩ | ⟨_, h⟩ <;> omega
    simp only [show ¬ ((2 : Int) = 1) from by decide, if_false, Int.mul_one] at hroom
    have hb := window_room (width := width) (count := count) (t := (rd_T42 l (j : Int)).f0) (own (rd_T42 l (i : Int)).f1 ((R.take j).drop i)) (own (rd_T42 l (i : Int)).f1 (R.take i)) (fun r hr => by
      have h1 := hge r hr
      have h2 := Int.ediv_le_ediv (show (0 : Int) < width from by omega) h1
      simp only [inW, decide_eq_true_eq]
      omega) (fun r hr => (hokR r (List.mem_of_mem_take (own_mem hr).1)).1)
    omega
end Go.Proofs.Ytmlpahjmebfgbaa.Own
