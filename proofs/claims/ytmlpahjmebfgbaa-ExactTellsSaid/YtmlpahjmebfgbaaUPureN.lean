/- Lemmas for a claim of this seat: texts of this session and of the kit's print, without what this claim does not use. -/
import Derived.Test.YtmlpahjmebfgbaaUTopC
namespace Go.Proofs.Ytmlpahjmebfgbaa.Own
open Go.RowKit Go.Proofs.YtmlpahjmebfgbaaW.PrintWords Go.Proofs.Ytmlpahjmebfgbaa.PEx
set_option linter.unusedVariables false
set_option linter.unusedSimpArgs false

theorem backs_snd (l : List S42) : (backs l).map (·.2) = l.reverse := by
  unfold backs
  rw [List.map_map, List.map_reverse]
  congr 1
  refine List.ext_getElem (by simp) (fun i h1 h2 => ?_)
  simp only [List.getElem_map, List.getElem_range, Function.comp]
  unfold rd_T42
  rw [Int.toNat_natCast, List.getD_eq_getElem?_getD, List.getElem?_eq_getElem h2]
  rfl
theorem upto_eq (tick : Int) (l : List S42) : upto tick (backs l) = l.reverse.filter (fun r => decide (r.f0 ≤ tick)) := by
  unfold upto
  rw [backs_snd]
theorem upto_all {tick : Int} {l : List S42} (h : ∀ r ∈ l, r.f0 ≤ tick) : upto tick (backs l) = l.reverse := by
  rw [upto_eq, List.filter_eq_self]
  intro r hr
  exact decide_eq_true (h r (by simpa using hr))

theorem foldB_later {num den t1 t2 : Int} (hn : 0 ≤ num) (h : t1 ≤ t2) (xs : List S42) : (foldB num den t2 xs).1 ≤ (foldB num den t1 xs).1 ∧ (foldB num den t2 xs).2 = (foldB num den t1 xs).2 := by
  refine snocInd (P := fun xs => (foldB num den t2 xs).1 ≤ (foldB num den t1 xs).1 ∧ (foldB num den t2 xs).2 = (foldB num den t1 xs).2) ⟨Int.le_refl _, rfl⟩ (fun l x ih => ?_) xs
  rw [foldB_snoc, foldB_snoc]
  simp only [stepB, mx]
  obtain ⟨i1, i2⟩ := ih
  refine ⟨?_, by rw [i2]⟩
  have h3 : num * (t1 - x.f0) ≤ num * (t2 - x.f0) := Int.mul_le_mul_of_nonneg_left (by omega) hn
  rw [i2]
  split <;> split <;> omega
theorem inW_later {width count t1 t2 : Int} (hw : 0 < width) (h : t1 ≤ t2) {r : S42} (hr : inW width count t2 r = true) : inW width count t1 r = true := by
  simp only [inW, decide_eq_true_eq] at hr ⊢
  have := Int.ediv_le_ediv hw h
  omega
theorem takeWhile_prefix {α : Type} {p q : α → Bool} (h : ∀ x, p x = true → q x = true) : ∀ xs : List α, xs.takeWhile p <+: xs.takeWhile q
  | [] => by simp
  | x :: xs => by
    rw [List.takeWhile_cons, List.takeWhile_cons]
    cases hp : p x with
    | false => simp
    | true => rw [h x hp]; simpa using takeWhile_prefix h xs
theorem sumW_append (a b : List S42) : sumW (a ++ b) = sumW a + sumW b := by
  refine snocInd (P := fun b => sumW (a ++ b) = sumW a + sumW b) (by simp [sumW]) (fun l x ih => ?_) b
  rw [← List.append_assoc, sumW_snoc, sumW_snoc, ih, Int.add_assoc]
theorem sumW_prefix {a b : List S42} (h : a <+: b) (hb : ∀ r ∈ b, okR r) : sumW a ≤ sumW b := by
  obtain ⟨c, rfl⟩ := h
  rw [sumW_append]
  have := (sumW_bound c (fun r hr => hb r (by simp [hr]))).1
  omega

/-- With nothing taken nothing rises. -/
theorem owed_later {kind num den width count t1 t2 : Int} {l : List S42} (hp : okP kind num den width count) (hok : ∀ r ∈ l, okR r) (h1 : ∀ r ∈ l, r.f0 ≤ t1) (h : t1 ≤ t2) :
    owedX kind num den width count t2 l ≤ owedX kind num den width count t1 l := by
  unfold owedX
  rw [upto_all h1, upto_all (fun r hr => Int.le_trans (h1 r hr) h)]
  rcases hp with ⟨rfl, a, b, c, d⟩ | ⟨rfl, a, b, c, d⟩
  · rw [if_pos rfl, if_pos rfl]
    exact (foldB_later (by omega) h _).1
  · rw [if_neg (by decide), if_neg (by decide)]
    exact sumW_prefix (takeWhile_prefix (fun r hr => inW_later (by omega) h hr) _) (fun r hr => hok r (by simpa using (List.takeWhile_sublist _).subset hr))
theorem wrap_succ {j n : Nat} (h : j < n) (hn : n ≤ 10000) : wrap64 ((j : Int) + 1) = ((j + 1 : Nat) : Int) := by
  rw [wrap64_small (by omega) (by omega)]; omega
theorem rd_mem {l : List S42} {j : Nat} (h : j < l.length) : rd_T42 l (j : Int) ∈ l := by
  unfold rd_T42
  rw [Int.toNat_natCast, List.getD_eq_getElem?_getD, List.getElem?_eq_getElem h]
  exact List.getElem_mem h

section
variable (kind cap num den width count keys : Int)
theorem verdL_length (l : List S42) : (verdL kind cap num den width count keys l).length = l.length := by rw [verdL, List.length_map, runV_length]
end

theorem good_sub {kind cap num den width count keys slots every seg : Int} {l l' : List S42} (h : Good kind cap num den width count keys slots every seg l) (hs : l'.Sublist l) : Good kind cap num den width count keys slots every seg l' :=
  ⟨h.pol, Nat.le_trans hs.length_le h.len, fun r hr => h.recs r (hs.subset hr), h.sorted.sublist hs⟩

theorem runV_ticks (kind cap num den width count keys : Int) (l : List S42) : (runV kind cap num den width count keys l).map (·.f0) = l.map (·.f0) := by
  refine snocInd (P := fun l => (runV kind cap num den width count keys l).map (·.f0) = l.map (·.f0)) rfl (fun l x ih => ?_) l
  rw [runV_snoc, List.map_append, List.map_append, ih]
  rfl
theorem runV_sorted (kind cap num den width count keys : Int) {l : List S42} (h : l.Pairwise (fun a b => a.f0 ≤ b.f0)) : (runV kind cap num den width count keys l).Pairwise (fun a b => a.f0 ≤ b.f0) := by
  have h1 : (l.map (·.f0)).Pairwise (· ≤ ·) := List.pairwise_map.2 h
  rw [← runV_ticks kind cap num den width count keys l] at h1
  exact List.pairwise_map.1 h1
end Go.Proofs.Ytmlpahjmebfgbaa.Own
