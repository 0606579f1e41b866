/- Plain laws on what is owed: the document's example; with nothing taken nothing rises. -/
import Derived.Test.YtmlpahjmebfgbaaExAwake
namespace Go.Proofs.Ytmlpahjmebfgbaa.Own
open Go.RowKit Go.Proofs.YtmlpahjmebfgbaaW.PrintWords Go.Proofs.Ytmlpahjmebfgbaa.PEx
set_option linter.unusedVariables false
set_option linter.unusedSimpArgs false

set_option maxRecDepth 100000 in
theorem awake_true (k : Nat) : reevelaw16_awake.f k = some true := by kernel_rfl

theorem backs_snd (l : List S42) : (backs l).map (·.2) = l.reverse := by
  unfold backs
  rw [List.map_map, List.map_reverse]
  congr 1
  refine List.ext_getElem (by simp) (fun i h1 h2 => ?_)
  simp only [List.getElem_map, List.getElem_range, Function.comp]
  unfold rd_T42
  rw [Int.toNat_natCast, List.getD_eq_getElem?_getD, List.getElem?_eq_getElem h2]
  rfl
theorem upto_eq (tick : Int) (l : List S42) : upto tick (backs l) = l.reverse.filter (fun r => decide (r.f0 ≤ tick)) := by
  unfold upto
  rw [backs_snd]
theorem upto_all {tick : Int} {l : List S42} (h : ∀ r ∈ l, r.f0 ≤ tick) : upto tick (backs l) = l.reverse := by
  rw [upto_eq, List.filter_eq_self]
  intro r hr
  exact decide_eq_true (h r (by simpa using hr))

theorem last_max {l : List S42} (hs : l.Pairwise (fun a b => a.f0 ≤ b.f0)) : ∀ r ∈ l, r.f0 ≤ lastTick l := by
  intro r hr
  have hne : l ≠ [] := List.ne_nil_of_mem hr
  obtain ⟨i, x, rfl⟩ : ∃ i x, l = i ++ [x] := ⟨_, _, (List.dropLast_concat_getLast hne).symm⟩
  have hl : lastTick (i ++ [x]) = x.f0 := by
    unfold lastTick rd_T42
    have : (((i ++ [x]).length : Int) - 1).toNat = i.length := by simp
    rw [this, List.getD_eq_getElem?_getD, List.getElem?_append_right (Nat.le_refl _)]
    simp
  rw [hl]
  rcases List.mem_append.1 hr with hr | hr
  · exact (List.pairwise_append.1 hs).2.2 r hr x (by simp)
  · simp only [List.mem_singleton] at hr
    subst hr; exact Int.le_refl _
theorem lastTick_bound {l : List S42} (h : ∀ r ∈ l, r.f0 ≤ 1099511627776 ∧ 0 ≤ r.f0) : lastTick l ≤ 1099511627776 ∧ 0 ≤ lastTick l := by
  unfold lastTick rd_T42
  rw [List.getD_eq_getElem?_getD]
  cases e : l[((l.length : Int) - 1).toNat]? with
  | none => simp [z42]
  | some r => exact h r (List.mem_of_getElem? e)

theorem foldB_later {num den t1 t2 : Int} (hn : 0 ≤ num) (h : t1 ≤ t2) (xs : List S42) : (foldB num den t2 xs).1 ≤ (foldB num den t1 xs).1 ∧ (foldB num den t2 xs).2 = (foldB num den t1 xs).2 := by
  refine snocInd (P := fun xs => (foldB num den t2 xs).1 ≤ (foldB num den t1 xs).1 ∧ (foldB num den t2 xs).2 = (foldB num den t1 xs).2) ⟨Int.le_refl _, rfl⟩ (fun l x ih => ?_) xs
  rw [foldB_snoc, foldB_snoc]
  simp only [stepB, mx]
  obtain ⟨i1, i2⟩ := ih
  refine ⟨?_, by rw [i2]⟩
  have h3 : num * (t1 - x.f0) ≤ num * (t2 - x.f0) := Int.mul_le_mul_of_nonneg_left (by omega) hn
  rw [i2]
  split <;> split <;> omega
theorem inW_later {width count t1 t2 : Int} (hw : 0 < width) (h : t1 ≤ t2) {r : S42} (hr : inW width count t2 r = true) : inW width count t1 r = true := by
  simp only [inW, decide_eq_true_eq] at hr ⊢
  have := Int.ediv_le_ediv hw h
  omega
theorem takeWhile_prefix {α : Type} {p q : α → Bool} (h : ∀ x, p x = true → q x = true) : ∀ xs : List α, xs.takeWhile p <+: xs.takeWhile q
  | [] => by simp
  | x :: xs => by
    rw [List.takeWhile_cons, List.takeWhile_cons]
    cases hp : p x with
    | false => simp
    | true => rw [h x hp]; simpa using takeWhile_prefix h xs
theorem sumW_append (a b : List S42) : sumW (a ++ b) = sumW a + sumW b := by
  refine snocInd (P := fun b => sumW (a ++ b) = sumW a + sumW b) (by simp [sumW]) (fun l x ih => ?_) b
  rw [← List.append_assoc, sumW_snoc, sumW_snoc, ih, Int.add_assoc]
theorem sumW_prefix {a b : List S42} (h : a <+: b) (hb : ∀ r ∈ b, okR r) : sumW a ≤ sumW b := by
  obtain ⟨c, rfl⟩ := h
  rw [sumW_append]
  have := (sumW_bound c (fun r hr => hb r (by simp [hr]))).1
  omega

/-- With nothing taken nothing rises. -/
theorem owed_later {kind num den width count t1 t2 : Int} {l : List S42} (hp : okP kind num den width count) (hok : ∀ r ∈ l, okR r) (h1 : ∀ r ∈ l, r.f0 ≤ t1) (h : t1 ≤ t2) :
    owedX kind num den width count t2 l ≤ owedX kind num den width count t1 l := by
  unfold owedX
  rw [upto_all h1, upto_all (fun r hr => Int.le_trans (h1 r hr) h)]
  rcases hp with ⟨rfl, a, b, c, d⟩ | ⟨rfl, a, b, c, d⟩
  · rw [if_pos rfl, if_pos rfl]
    exact (foldB_later (by omega) h _).1
  · rw [if_neg (by decide), if_neg (by decide)]
    exact sumW_prefix (takeWhile_prefix (fun r hr => inW_later (by omega) h hr) _) (fun r hr => hok r (by simpa using (List.takeWhile_sublist _).subset hr))
theorem hold_later {kind num den width count t1 t2 : Int} {l : List S42} (hp : okP kind num den width count) (hok : ∀ r ∈ l, okR r) (h1 : ∀ r ∈ l, r.f0 ≤ t1) (h : t1 ≤ t2) (h0 : 0 ≤ t1) :
    (holdL kind num den width count t2 l).length ≤ (holdL kind num den width count t1 l).length := by
  unfold holdL
  rw [← List.countP_eq_length_filter, ← List.countP_eq_length_filter]
  refine List.countP_mono_left fun key _ hk => ?_
  simp only [owes, decide_eq_true_eq] at hk ⊢
  have ho : ∀ r ∈ own key l, okR r := fun r hr => hok r (own_mem hr).1
  have hle := owed_later (l := own key l) hp ho (fun r hr => h1 r (own_mem hr).1) h
  have hb := (owedX_bound (tick := t2) hp ho (by omega)).1
  omega
end Go.Proofs.Ytmlpahjmebfgbaa.Own
