/- Lemmas for a claim of this seat: texts of this session and of the kit's print, without what this claim does not use. -/
import Derived.Test.YtmlpahjmebfgbaaURefP
import Derived.Test.YtmlpahjmebfgbaaUPureN
import Derived.Sort.Walk0
section
namespace Go.Proofs.Ytmlpahjmebfgbaa.Own
open Go.RowKit Go.Proofs.YtmlpahjmebfgbaaW.PrintWords Go.Proofs.Ytmlpahjmebfgbaa.PEx
set_option linter.unusedVariables false
set_option linter.unusedSimpArgs false

/-- What a key took up to a tick, the last first. -/
def downL (key : ByteArray) (tick : Int) (l : List S42) : List S42 := (own key l).reverse.filter fun r => decide (r.f0 ≤ tick)
theorem downL_cons (key : ByteArray) (tick : Int) (x : S42) (l : List S42) : downL key tick (x :: l) = downL key tick l ++ (if x.f1 = key ∧ x.f3 = 1 ∧ x.f0 ≤ tick then [x] else []) := by
  unfold downL own
  rw [List.filter_cons]
  by_cases h1 : x.f1 = key <;> by_cases h2 : x.f3 = 1 <;> by_cases h3 : x.f0 ≤ tick <;> simp [h1, h2, h3, List.filter_append]
theorem downL_mem {key : ByteArray} {tick : Int} {l : List S42} {r : S42} (h : r ∈ downL key tick l) : r ∈ l ∧ r.f0 ≤ tick := by
  unfold downL at h
  obtain ⟨h1, h2⟩ := List.mem_filter.1 h
  exact ⟨(own_mem (List.mem_reverse.1 h1)).1, by simpa using h2⟩
theorem downL_length (key : ByteArray) (tick : Int) (l : List S42) : (downL key tick l).length ≤ l.length := by
  unfold downL
  refine Nat.le_trans (List.length_filter_le _ _) ?_
  rw [List.length_reverse]
  exact own_length _ _
theorem upto_own (key : ByteArray) (tick : Int) (l : List S42) : upto tick (backs (own key l)) = downL key tick l := upto_eq _ _

section
variable (a1 a2 a3 a4 a5 a6 a7 a8 a9 : Int) (l : List S42) (key : ByteArray) (tick : Int)

theorem drop_step {m : Nat} (hm : m < l.length) : downL key tick (l.drop m) = downL key tick (l.drop (m + 1)) ++ (if (rd_T42 l (m : Int)).f1 = key ∧ (rd_T42 l (m : Int)).f3 = 1 ∧ (rd_T42 l (m : Int)).f0 ≤ tick then [rd_T42 l (m : Int)] else []) := by
  rw [drop_rd l m hm, downL_cons]

theorem owed_l0_bucket (hn : 1 ≤ a2) (hn2 : a2 ≤ 65536) (hd : 1 ≤ a3) (hd2 : a3 ≤ 65536) (hok : ∀ r ∈ l, okR r) (hl : l.length ≤ 10000) (ht0 : 0 ≤ tick) (ht : tick ≤ 1099511627776) : ∀ (m k : Nat), m ≤ l.length → 2 * m + 1 ≤ k →
    reeveref16_owed.l0 k l key tick (foldB a2 a3 tick (downL key tick (l.drop m))).1 (foldB a2 a3 tick (downL key tick (l.drop m))).2 ((m : Int) - 1) 1 a1 a2 a3 a4 a5 a6 a7 a8 a9 = some (foldB a2 a3 tick (downL key tick l)).1
  | 0, k, _, hk => by
    obtain ⟨k, rfl⟩ : ∃ k', k = k' + 1 := ⟨k - 1, by omega⟩
    simp only [reeveref16_owed.l0]
    rw [if_neg (by omega), List.drop_zero]
  | m + 1, k, hm, hk => by
    obtain ⟨k, rfl⟩ : ∃ k', k = k' + 2 := ⟨k - 2, by omega⟩
    have hlt : m < l.length := by omega
    have ih := owed_l0_bucket hn hn2 hd hd2 hok hl ht0 ht m k (by omega) (by omega)
    have hst := drop_step l key tick hlt
    have hw : wrap64 ((m : Int) - 1) = (m : Int) - 1 := wrap64_small (by omega) (by omega)
    have e : ((m + 1 : Nat) : Int) - 1 = (m : Int) := by omega
    rw [e]
    simp only [reeveref16_owed.l0, reeveref16_owed.j1]
    rw [if_pos (by omega), if_pos (by omega), if_pos (by omega)]
    by_cases h1 : (rd_T42 l (m : Int)).f1 = key
    · rw [if_pos ((same_in _ _).2 h1)]
      by_cases h2 : (rd_T42 l (m : Int)).f3 = 1
      · rw [if_pos h2]
        by_cases h3 : (rd_T42 l (m : Int)).f0 > tick
        · rw [decide_eq_true h3, if_pos rfl, hw]
          rw [if_neg (fun h => by omega), List.append_nil] at hst
          rw [hst] at ih
          exact ih
        · rw [if_pos ⟨h1, h2, by omega⟩] at hst
          rw [decide_eq_false h3, if_neg (by decide), if_neg (by decide), if_pos (by omega), if_pos (by omega), hw]
          rw [hst, foldB_snoc] at ih
          obtain ⟨b1, b2, b3⟩ := foldB_bound (num := a2) (den := a3) (tick := tick) hn hd hd2 (downL key tick (l.drop (m + 1))) (fun r hr => ⟨hok r (List.mem_of_mem_drop (downL_mem hr).1), (downL_mem hr).2⟩)
          have hlen := downL_length key tick (l.drop (m + 1))
          have hlen2 : (l.drop (m + 1)).length ≤ 10000 := by simp; omega
          obtain ⟨r1, r2, r3, r4⟩ := hok _ (rd_mem hlt)
          obtain ⟨p1, p2⟩ := mul_le_of (a := (rd_T42 l (m : Int)).f2) (b := a3) (A := 1048576) (B := 65536) (by omega) r4 (by omega) hd2
          obtain ⟨q1, q2⟩ := mul_le_of (a := a2) (b := tick - (rd_T42 l (m : Int)).f0) (A := 65536) (B := 1099511627776) (by omega) hn2 (by omega) (by omega)
          generalize foldB a2 a3 tick (downL key tick (l.drop (m + 1))) = st at ih b1 b2 b3 ⊢
          simp only [stepB] at ih
          rw [wrap64_small (x := (rd_T42 l (m : Int)).f2 * a3) (by omega) (by omega), wrap64_small (x := st.2 + (rd_T42 l (m : Int)).f2 * a3) (by omega) (by omega), wrap64_small (x := tick - (rd_T42 l (m : Int)).f0) (by omega) (by omega),
            wrap64_small (x := a2 * (tick - (rd_T42 l (m : Int)).f0)) (by omega) (by omega), wrap64_small (by omega) (by omega)]
          exact ih
      · rw [if_neg h2, if_pos trivial, hw]
        rw [if_neg (fun h => h2 h.2.1), List.append_nil] at hst
        rw [hst] at ih
        exact ih
    · rw [if_neg (fun h => h1 ((same_in _ _).1 h)), if_pos trivial, hw]
      rw [if_neg (fun h => h1 h.1), List.append_nil] at hst
      rw [hst] at ih
      exact ih

theorem owed_l0_window (hw1 : 1 ≤ a4) (hw2 : a4 ≤ 1048576) (hc1 : 1 ≤ a5) (hc2 : a5 ≤ 32) (hok : ∀ r ∈ l, okR r) (hl : l.length ≤ 10000) (ht0 : 0 ≤ tick) (ht : tick ≤ 1099511627776) : ∀ (m k : Nat), m ≤ l.length → 2 * m + 1 ≤ k →
    reeveref16_owed.l0 k l key tick (sumW ((downL key tick (l.drop m)).filter (inW a4 a5 tick))) 0 ((m : Int) - 1) 2 a1 a2 a3 a4 a5 a6 a7 a8 a9 = some (sumW ((downL key tick l).filter (inW a4 a5 tick)))
  | 0, k, _, hk => by
    obtain ⟨k, rfl⟩ : ∃ k', k = k' + 1 := ⟨k - 1, by omega⟩
    simp only [reeveref16_owed.l0]
    rw [if_neg (by omega), List.drop_zero]
  | m + 1, k, hm, hk => by
    obtain ⟨k, rfl⟩ : ∃ k', k = k' + 2 := ⟨k - 2, by omega⟩
    have hlt : m < l.length := by omega
    have ih := owed_l0_window hw1 hw2 hc1 hc2 hok hl ht0 ht m k (by omega) (by omega)
    have hst := drop_step l key tick hlt
    have hw : wrap64 ((m : Int) - 1) = (m : Int) - 1 := wrap64_small (by omega) (by omega)
    have e : ((m + 1 : Nat) : Int) - 1 = (m : Int) := by omega
    rw [e]
    simp only [reeveref16_owed.l0, reeveref16_owed.j1]
    rw [if_pos (by omega), if_pos (by omega), if_pos (by omega)]
    by_cases h1 : (rd_T42 l (m : Int)).f1 = key
    · rw [if_pos ((same_in _ _).2 h1)]
      by_cases h2 : (rd_T42 l (m : Int)).f3 = 1
      · rw [if_pos h2]
        by_cases h3 : (rd_T42 l (m : Int)).f0 > tick
        · rw [decide_eq_true h3, if_pos rfl, hw]
          rw [if_neg (fun h => by omega), List.append_nil] at hst
          rw [hst] at ih
          exact ih
        · rw [if_pos ⟨h1, h2, by omega⟩] at hst
          rw [decide_eq_false h3, if_neg (by decide), if_pos trivial, if_neg (by omega), if_pos (by omega), if_pos (by omega), hw]
          obtain ⟨r1, r2, r3, r4⟩ := hok _ (rd_mem hlt)
          have hq : ∀ y : Int, 0 ≤ y → y ≤ 1099511627776 → 0 ≤ y / a4 ∧ y / a4 ≤ 1099511627776 ∧ Int.tdiv y a4 = y / a4 := fun y h0 h1 =>
            ⟨Int.ediv_nonneg h0 (by omega), Int.le_trans (Int.ediv_le_self _ h0) h1, Int.tdiv_eq_ediv_of_nonneg h0⟩
          obtain ⟨d1, d2, d3⟩ := hq tick ht0 ht
          obtain ⟨d4, d5, d6⟩ := hq _ r1 r2
          rw [d3, d6, wrap64_small (x := tick / a4) (by omega) (by omega), wrap64_small (x := (rd_T42 l (m : Int)).f0 / a4) (by omega) (by omega), wrap64_small (x := tick / a4 - (rd_T42 l (m : Int)).f0 / a4) (by omega) (by omega)]
          obtain ⟨s1, s2⟩ := sumW_bound ((downL key tick (l.drop (m + 1))).filter (inW a4 a5 tick)) (fun r hr => hok r (List.mem_of_mem_drop (downL_mem (List.mem_filter.1 hr).1).1))
          have hlen := Nat.le_trans (List.length_filter_le (inW a4 a5 tick) _) (downL_length key tick (l.drop (m + 1)))
          have hlen2 : (l.drop (m + 1)).length ≤ 10000 := by simp; omega
          have hin : inW a4 a5 tick (rd_T42 l (m : Int)) = decide (tick / a4 - (rd_T42 l (m : Int)).f0 / a4 < a5) := rfl
          rw [hst, List.filter_append] at ih
          by_cases h4 : tick / a4 - (rd_T42 l (m : Int)).f0 / a4 < a5
          · rw [if_pos h4, wrap64_small (by omega) (by omega)]
            have : ([rd_T42 l (m : Int)].filter (inW a4 a5 tick)) = [rd_T42 l (m : Int)] := by simp [hin, h4]
            rw [this, sumW_snoc] at ih
            exact ih
          · rw [if_neg h4]
            have : ([rd_T42 l (m : Int)].filter (inW a4 a5 tick)) = [] := by simp [hin]; omega
            rw [this, List.append_nil] at ih
            exact ih
      · rw [if_neg h2, if_pos trivial, hw]
        rw [if_neg (fun h => h2 h.2.1), List.append_nil] at hst
        rw [hst] at ih
        exact ih
    · rw [if_neg (fun h => h1 ((same_in _ _).1 h)), if_pos trivial, hw]
      rw [if_neg (fun h => h1 h.1), List.append_nil] at hst
      rw [hst] at ih
      exact ih
end

/-- In a row that falls the records of a window stand ahead. -/
theorem window_ahead {width count tick : Int} (hw : 0 < width) : ∀ (xs : List S42), xs.Pairwise (fun a b => b.f0 ≤ a.f0) → xs.takeWhile (inW width count tick) = xs.filter (inW width count tick)
  | [], _ => rfl
  | x :: xs, h => by
    obtain ⟨h1, h2⟩ := List.pairwise_cons.1 h
    rw [List.takeWhile_cons, List.filter_cons]
    cases hx : inW width count tick x with
    | true => simp [window_ahead hw xs h2]
    | false =>
      simp only [Bool.false_eq_true, if_false]
      refine (List.filter_eq_nil_iff.2 fun y hy => ?_).symm
      have := h1 y hy
      have h3 := Int.ediv_le_ediv hw this
      simp only [inW, decide_eq_false_iff_not, decide_eq_true_eq] at hx ⊢
      omega

theorem owed_eq {kind cap num den width count keys slots every seg : Int} {l : List S42} (hg : Good kind cap num den width count keys slots every seg l) (key : ByteArray) {tick : Int} (ht0 : 0 ≤ tick) (ht : tick ≤ 1099511627776) {k : Nat} (hk : 2 * l.length + 1 ≤ k) :
    reeveref16_owed.f k kind cap num den width count keys slots every seg l key tick = some (owedX kind num den width count tick (own key l)) := by
  have hl := hg.len
  have hw : wrap64 ((l.length : Int) - 1) = (l.length : Int) - 1 := wrap64_small (by omega) (by omega)
  unfold reeveref16_owed.f owedX
  rw [hw, upto_own]
  have e0 : downL key tick (l.drop l.length) = [] := by rw [List.drop_length]; rfl
  rcases (pol_ok hg.pol).1 with ⟨rfl, h1, h2, h3, h4⟩ | ⟨rfl, h1, h2, h3, h4⟩
  · have := owed_l0_bucket cap num den width count keys slots every seg l key tick h1 h2 h3 h4 (good_okR hg) hl ht0 ht l.length k (Nat.le_refl _) hk
    rw [e0] at this
    rw [if_pos rfl]
    exact this
  · have := owed_l0_window cap num den width count keys slots every seg l key tick h1 h2 h3 h4 (good_okR hg) hl ht0 ht l.length k (Nat.le_refl _) hk
    rw [e0] at this
    rw [if_neg (by decide)]
    rw [window_ahead (by omega)]
    · exact this
    · unfold downL
      refine List.Pairwise.filter _ ?_
      rw [List.pairwise_reverse]
      exact (hg.sorted.sublist List.filter_sublist)
end Go.Proofs.Ytmlpahjmebfgbaa.Own
end
section
namespace Go.Proofs.Ytmlpahjmebfgbaa.Own
open Go.RowKit Go.Proofs.YtmlpahjmebfgbaaW.PrintWords Go.Proofs.Ytmlpahjmebfgbaa.PEx
set_option linter.unusedVariables false
set_option linter.unusedSimpArgs false

theorem less_iff (a b : ByteArray) : Op.bytesLess a.toList b.toList = true ↔ klt a b := by
  rw [bytesLess_eq, ByteArray.toList_eq, ByteArray.toList_eq]
  simp [klt]
theorem rdOf_mem {l : List ByteArray} {j : Nat} (h : j < l.length) : l.drop j = rdOf ByteArray.empty l (j : Int) :: l.drop (j + 1) := by
  rw [List.drop_eq_getElem_cons h]
  congr 1
  unfold rdOf
  rw [Int.toNat_natCast, List.getD_eq_getElem?_getD, List.getElem?_eq_getElem h]
  rfl
theorem take_next {l : List ByteArray} {j : Nat} (h : j < l.length) : l.take (j + 1) = l.take j ++ [rdOf ByteArray.empty l (j : Int)] := by
  rw [List.take_add_one]
  congr 1
  unfold rdOf
  rw [Int.toNat_natCast, List.getD_eq_getElem?_getD, List.getElem?_eq_getElem h]
  rfl
theorem insert_l0 (l : List ByteArray) (key : ByteArray) (hl : l.length ≤ 10000) : ∀ (n j : Nat), l.length - j < n → j ≤ l.length → reeveref16_insert.l0 n l key (j : Int) = some (l.take j ++ insK (l.drop j) key)
  | 0, j, h, _ => by omega
  | n + 1, j, h, hj => by
    have hend : (some (l.take (j : Int).toNat : List ByteArray)).bind (fun y132 => (if ([] : List ByteArray).length + y132.length < 8796093022208 then ((some (([] : List ByteArray) ++ y132 : List ByteArray)).bind fun y136 => (if y136.length < 8796093022208 then ((some (y136 ++ [key] : List ByteArray)).bind fun y139 => ((some (l.drop (j : Int).toNat : List ByteArray)).bind fun y142 => (if y139.length + y142.length < 8796093022208 then (some (y139 ++ y142)) else (none)))) else (none))) else (none))) = some (l.take j ++ key :: l.drop j) := by
      simp only [Int.toNat_natCast, Option.bind_some, List.length_nil, List.nil_append, List.length_append, List.length_take, List.length_drop, List.length_singleton]
      rw [if_pos (by omega), if_pos (by omega), if_pos (by omega)]
      simp
    unfold reeveref16_insert.l0
    by_cases hlt : j < l.length
    · rw [if_pos (by omega), if_pos (by omega), rdOf_mem hlt]
      by_cases h1 : klt (rdOf ByteArray.empty l (j : Int)) key
      · rw [if_pos ((less_iff _ _).2 h1), wrap_next hlt hl, insert_l0 l key hl n (j + 1) (by omega) (by omega), take_next hlt]
        simp [insK, h1]
      · rw [if_neg (fun h => h1 ((less_iff _ _).1 h))]
        by_cases h2 : rdOf ByteArray.empty l (j : Int) = key
        · rw [if_pos ((same_in _ _).2 h2)]
          simp only [insK, if_neg h1, if_pos h2]
          rw [← rdOf_mem hlt, List.take_append_drop]
        · rw [if_neg (fun h => h2 ((same_in _ _).1 h)), if_pos (by omega), hend, rdOf_mem hlt]
          simp only [insK, if_neg h1, if_neg h2]
    · obtain rfl : j = l.length := by omega
      rw [if_neg (by omega), if_pos (by omega), if_pos (by omega), hend, List.drop_length]
      rfl
theorem insert_eq (l : List ByteArray) (key : ByteArray) (hl : l.length ≤ 10000) {k : Nat} (hk : l.length < k) : reeveref16_insert.f k l key = some (insK l key) := by
  unfold reeveref16_insert.f
  have := insert_l0 l key hl k 0 (by omega) (Nat.zero_le _)
  simpa using this

/-- The keys that owe, put in one behind another. -/
def foldH (kind num den width count tick : Int) (l : List S42) (xs : List S42) : List ByteArray := xs.foldl (fun out r => if 0 < owedX kind num den width count tick (own r.f1 l) then insK out r.f1 else out) []
theorem foldH_snoc (kind num den width count tick : Int) (l xs : List S42) (r : S42) : foldH kind num den width count tick l (xs ++ [r]) = if 0 < owedX kind num den width count tick (own r.f1 l) then insK (foldH kind num den width count tick l xs) r.f1 else foldH kind num den width count tick l xs := by simp [foldH]
theorem insK_length (k : ByteArray) : ∀ l : List ByteArray, (insK l k).length ≤ l.length + 1
  | [] => by simp [insK]
  | x :: l => by
    unfold insK
    split
    · have := insK_length k l; simp; omega
    · split <;> simp
theorem foldH_facts (kind num den width count tick : Int) (l xs : List S42) : (foldH kind num den width count tick l xs).Pairwise klt ∧ (foldH kind num den width count tick l xs).length ≤ xs.length ∧ ∀ key, key ∈ foldH kind num den width count tick l xs ↔ (∃ r ∈ xs, r.f1 = key) ∧ 0 < owedX kind num den width count tick (own key l) := by
  refine snocInd (P := fun xs => (foldH kind num den width count tick l xs).Pairwise klt ∧ (foldH kind num den width count tick l xs).length ≤ xs.length ∧ ∀ key, key ∈ foldH kind num den width count tick l xs ↔ (∃ r ∈ xs, r.f1 = key) ∧ 0 < owedX kind num den width count tick (own key l)) ⟨by simp [foldH], by simp [foldH], fun key => by simp [foldH]⟩ (fun xs x ih => ?_) xs
  obtain ⟨i1, i2, i3⟩ := ih
  rw [foldH_snoc]
  by_cases h : 0 < owedX kind num den width count tick (own x.f1 l)
  · rw [if_pos h]
    refine ⟨insK_sorted _ _ i1, by have := insK_length x.f1 (foldH kind num den width count tick l xs); simp; omega, fun key => ?_⟩
    rw [insK_mem, i3 key]
    constructor
    · rintro (e | ⟨⟨r, hr, e⟩, h2⟩)
      · subst e; exact ⟨⟨x, by simp, rfl⟩, h⟩
      · exact ⟨⟨r, by simp [hr], e⟩, h2⟩
    · rintro ⟨⟨r, hr, e⟩, h2⟩
      rcases List.mem_append.1 hr with hr | hr
      · exact .inr ⟨⟨r, hr, e⟩, h2⟩
      · simp only [List.mem_singleton] at hr
        subst hr; exact .inl e.symm
  · rw [if_neg h]
    refine ⟨i1, by simp; omega, fun key => ?_⟩
    rw [i3 key]
    constructor
    · rintro ⟨⟨r, hr, e⟩, h2⟩
      exact ⟨⟨r, by simp [hr], e⟩, h2⟩
    · rintro ⟨⟨r, hr, e⟩, h2⟩
      rcases List.mem_append.1 hr with hr | hr
      · exact ⟨⟨r, hr, e⟩, h2⟩
      · simp only [List.mem_singleton] at hr
        subst hr; subst e; exact absurd h2 h
theorem owedX_nil (kind num den width count tick : Int) : owedX kind num den width count tick [] = 0 := by
  unfold owedX
  have : upto tick (backs []) = [] := by simp [backs, upto]
  rw [this]
  split <;> rfl
theorem foldH_hold {kind num den width count tick : Int} {l : List S42} (hp : okP kind num den width count) (hok : ∀ r ∈ l, okR r) (ht0 : 0 ≤ tick) : foldH kind num den width count tick l l = holdL kind num den width count tick l := by
  obtain ⟨h1, _, h3⟩ := foldH_facts kind num den width count tick l l
  refine sorted_unique h1 ((keysL_of l).sorted.filter _) (fun key => ?_)
  rw [h3 key, holdL, List.mem_filter, (keysL_of l).mem key]
  have hb := (owedX_bound (kind := kind) (num := num) (den := den) (width := width) (count := count) (l := own key l) (tick := tick) hp (fun r hr => hok r (own_mem hr).1) ht0).1
  simp only [owes, decide_eq_true_eq]
  constructor
  · rintro ⟨_, h⟩
    exact ⟨fun e => by rw [e, owedX_nil] at h; omega, by omega⟩
  · rintro ⟨h, h2⟩
    cases e : own key l with
    | nil => exact absurd e h
    | cons r rs =>
      have hm := own_mem (show r ∈ own key l from by rw [e]; simp)
      exact ⟨⟨r, hm.1, hm.2.1⟩, by rw [e] at hb h2; omega⟩

theorem holders_l0 {kind cap num den width count keys slots every seg : Int} {l : List S42} (hg : Good kind cap num den width count keys slots every seg l) {tick : Int} (ht0 : 0 ≤ tick) (ht : tick ≤ 1099511627776) : ∀ (n j : Nat), l.length - j ≤ n → j ≤ l.length →
    reeveref16_holders.l0 (n + 2 * l.length + 2) l tick (foldH kind num den width count tick l (l.take j)) (j : Int) kind cap num den width count keys slots every seg = some (foldH kind num den width count tick l l)
  | n, j, h, hj => by
    have hl := hg.len
    by_cases hlt : j < l.length
    · obtain ⟨n, rfl⟩ : ∃ n', n = n' + 1 := ⟨n - 1, by omega⟩
      have ih := holders_l0 hg ht0 ht n (j + 1) (by omega) (by omega)
      rw [take_rd l j hlt, foldH_snoc] at ih
      rw [show n + 1 + 2 * l.length + 2 = (n + 2 * l.length + 2) + 1 from by omega]
      unfold reeveref16_holders.l0
      rw [if_pos (by omega), if_pos (by omega), owed_eq hg _ ht0 ht (by omega)]
      simp only [Option.bind_some]
      by_cases hp : 0 < owedX kind num den width count tick (own (rd_T42 l (j : Int)).f1 l)
      · rw [if_pos hp] at ih
        have hlen := (foldH_facts kind num den width count tick l (l.take j)).2.1
        simp at hlen
        rw [if_pos hp, insert_eq _ _ (by omega) (by omega), wrap_next hlt hl]
        exact ih
      · rw [if_neg hp] at ih
        rw [if_neg hp, wrap_next hlt hl]
        exact ih
    · obtain rfl : j = l.length := by omega
      unfold reeveref16_holders.l0
      rw [if_neg (by omega), List.take_length]
termination_by n _ => n
theorem holders_eq {kind cap num den width count keys slots every seg : Int} {l : List S42} (hg : Good kind cap num den width count keys slots every seg l) {tick : Int} (ht0 : 0 ≤ tick) (ht : tick ≤ 1099511627776) {k : Nat} (hk : 3 * l.length + 2 ≤ k) :
    reeveref16_holders.f k kind cap num den width count keys slots every seg l tick = some (holdL kind num den width count tick l) := by
  obtain ⟨n, rfl⟩ : ∃ n, k = (l.length + n) + 2 * l.length + 2 := ⟨k - 3 * l.length - 2, by omega⟩
  unfold reeveref16_holders.f
  have := holders_l0 hg ht0 ht (l.length + n) 0 (by omega) (Nat.zero_le _)
  rw [foldH_hold (pol_ok hg.pol).1 (good_okR hg) ht0] at this
  exact this

theorem due_eq {kind cap num den width count keys slots every seg : Int} {l : List S42} (hg : Good kind cap num den width count keys slots every seg l) {tick : Int} (ht0 : 0 ≤ tick) (ht : tick ≤ 1099511627776) (key : ByteArray) {cost : Int} (hc : 1 ≤ cost) (hc2 : cost ≤ 1048576) {k : Nat} (hk : 3 * l.length + 2 ≤ k) :
    reeveref16_due.f k kind cap num den width count keys slots every seg l tick key cost = some (dueX kind cap num den width count keys l tick key cost) := by
  have hp := pol_ok hg.pol
  have hb := owedX_bound (kind := kind) (num := num) (den := den) (width := width) (count := count) (l := own key l) (tick := tick) hp.1 (fun r hr => good_okR hg r (own_mem hr).1) ht0
  have hol := own_length key l
  have hl := hg.len
  unfold reeveref16_due.f dueX
  rw [owed_eq hg key ht0 ht (by omega), holders_eq hg ht0 ht hk]
  simp only [Option.bind_some]
  generalize owedX kind num den width count tick (own key l) = ow at hb ⊢
  have hj0 : reeveref16_due.j0 k cost ow kind cap num den width count keys slots every seg = some (if ow + cost * (if kind = 1 then den else 1) ≤ cap * (if kind = 1 then den else 1) then 1 else 0) := by
    obtain ⟨k, rfl⟩ : ∃ k', k = k' + 1 := ⟨k - 1, by omega⟩
    simp only [reeveref16_due.j0]
    rcases hp.1 with ⟨rfl, h1, h2, h3, h4⟩ | ⟨rfl, h1, h2, h3, h4⟩
    · obtain ⟨p1, p2⟩ := mul_le_of (a := cost) (b := den) (A := 1048576) (B := 65536) (by omega) hc2 (by omega) h4
      obtain ⟨q1, q2⟩ := mul_le_of (a := cap) (b := den) (A := 1048576) (B := 65536) (by omega) hp.2.2.1 (by omega) h4
      simp only [if_true]
      rw [wrap64_small (x := cost * den) (by omega) (by omega), wrap64_small (x := cap * den) (by omega) (by omega), wrap64_small (by omega) (by omega)]
      split <;> rfl
    · simp only [if_neg (show ¬ (2:Int) = 1 from by decide), Int.mul_one]
      rw [wrap64_small (by omega) (by omega)]
      split <;> rfl
  by_cases h0 : ow = 0
  · rw [if_pos h0]
    by_cases hf : ((holdL kind num den width count tick l).length : Int) ≥ keys
    · rw [if_pos hf, if_pos ⟨h0, hf⟩]
    · rw [if_neg hf, if_neg (fun h => hf h.2), hj0]
  · rw [if_neg h0, if_neg (fun h => h0 h.1), hj0]
end Go.Proofs.Ytmlpahjmebfgbaa.Own
end

