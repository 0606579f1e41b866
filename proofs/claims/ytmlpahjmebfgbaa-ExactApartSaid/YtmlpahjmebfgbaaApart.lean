/- ExactApart: whatever policy, list, key and tick are handed in: true; what was handed in reads as it did. No condition. -/
import Derived.Test.YtmlpahjmebfgbaaOpen
import Derived.Test.YtmlpahjmebfgbaaExApart
import Derived.Test.YtmlpahjmebfgbaaPureB
namespace Go.Proofs.Ytmlpahjmebfgbaa.Own
open Go.ChangeShapes Go.WideShapes Go.ChangeAt Go.RowKit Go.Proofs.YtmlpahjmebfgbaaW.PrintWords Go.Proofs.Ytmlpahjmebfgbaa.PEx
set_option linter.unusedVariables false
set_option linter.unusedSimpArgs false

def apart_pure : Prop := ∀ (a0 a1 a2 a3 a4 a5 a6 a7 a8 a9 : Int) (l : List S42) (s2 : ByteArray) (x3 : Int), wf64 a0 → wf64 a1 → wf64 a2 → wf64 a3 → wf64 a4 → wf64 a5 → wf64 a6 → wf64 a7 → wf64 a8 → wf64 a9 → l.length * 40 ≤ 140737488351232 → (∀ r ∈ l, inR r) → s2.size ≤ maxLen → wf64 x3 → ∃ k, reevelaw16_ExactApart.f k a0 a1 a2 a3 a4 a5 a6 a7 a8 a9 l s2 x3 = some true

set_option maxRecDepth 100000 in
theorem apart_lifted (P : apart_pure) (os : Os) (started : os.Started) (H : Type) (enc : TypeId × Value → H) :
    ReturnsInHanded {} Try.checked os 6 .any (Rows.exactApartSpec.pre6 enc Try.prog Try.f6 Rows.exactApartRow.domain false) (Rows.exactApartSpec.post enc Try.prog Try.f6 false true false false) := by
  refine lift_true started (by kernel_rfl) Try.func6 rfl (by kernel_rfl) Try.underlying4 (by kernel_rfl) ?_
    (ChangeSpec.witness6 (enc := enc) (C := Try.checked) false ⟨#[], #[.agg #[.int .i64 0, .int .i64 0, .int .i64 0, .int .i64 0, .int .i64 0, .int .i64 0, .int .i64 0, .int .i64 0, .int .i64 0, .int .i64 0], .slice none 0 0, .string ⟨#[]⟩, .int .i64 0], []⟩ 8 (by kernel_rfl) (by kernel_rfl) (by kernel_rfl) (by kernel_rfl)) ?_
  · intro ds hds
    match ds, hds with
    | [d0, d1, d2, d3], _ => rfl
  · intro W base args ds p hval hA hwt
    rw [Try.params6] at hA hval hwt
    obtain ⟨v0, vs, d0, ds1, p0, q0, hargs, rfl, rfl, h0, hA⟩ := trodAll_cons hA
    obtain ⟨v1, vs, d1, ds1, p1, q1, rfl, rfl, rfl, h1, hA⟩ := trodAll_cons hA
    obtain ⟨v2, vs, d2, ds1, p2, q2, rfl, rfl, rfl, h2, hA⟩ := trodAll_cons hA
    obtain ⟨v3, vs, d3, ds1, p3, q3, rfl, rfl, rfl, h3, hA⟩ := trodAll_cons hA
    obtain ⟨rfl, rfl, rfl⟩ := trodAll_nil hA
    have hargs' : args = #[v0, v1, v2, v3] := by cases args; simpa using hargs
    subst hargs'
    obtain ⟨a0, a1, a2, a3, a4, a5, a6, a7, a8, a9, rfl, w0, w1, w2, w3, w4, w5, w6, w7, w8, w9⟩ := open_pol (hval 0 23 v0 rfl rfl) h0
    obtain ⟨A, c, l, rfl, hc, hcm, hC, hin, hd⟩ := open_recs (hval 1 24 v1 rfl rfl) h1
    have hsz : l.length * 40 ≤ 140737488351232 := by
      rcases hd with ⟨_, rfl⟩ | ⟨el, rest, rfl, hel⟩
      · simp
      · have := sized_slice hwt (j := 1) rfl rfl Try.underlying24
        rw [bytes42, hel] at this
        simp only [reachBytes] at this
        omega
    obtain ⟨s2, rfl, _, _, hs2⟩ := Go.ChangeMaps.open_string Try.underlying9 (hval 2 9 v2 rfl rfl) h2
    obtain ⟨x3, rfl, _, _, wx3⟩ := open_int Try.underlying3 (hval 3 3 v3 rfl rfl) h3
    obtain ⟨k, h⟩ := P a0 a1 a2 a3 a4 a5 a6 a7 a8 a9 l s2 x3 w0 w1 w2 w3 w4 w5 w6 w7 w8 w9 hsz hin hs2 wx3
    exact reevelaw16_ExactApart.calls k a0 a1 a2 a3 a4 a5 a6 a7 a8 a9 A c l s2 x3 true W hC hc h

theorem apart_holds (P : apart_pure) : Rows.ExactApartSaid :=
  OpenClaim.holds_of_wide 6 Try.f6 rfl rfl rfl rfl rfl rfl rfl ⟨rfl, rfl, rfl, rfl, rfl⟩ rfl rfl rfl rfl rfl (by kernel_rfl) Try.func6 (by kernel_rfl)
    (of_decide_eq_true (by kernel_rfl)) (by unfold Func.isWrapper; first | (rw [if_pos (by decide +kernel)]; kernel_rfl) | (rw [if_neg (by decide +kernel)]; exact ⟨rfl, rfl⟩))
    (fun os started H enc _ => apart_lifted P os started H enc)

/-- What a key took up to a tick. -/
def apartL (key : ByteArray) (tick : Int) (l : List S42) : List S42 := (own key l).filter fun r => decide (r.f0 ≤ tick)
theorem apartL_snoc (key : ByteArray) (tick : Int) (l : List S42) (r : S42) : apartL key tick (l ++ [r]) = apartL key tick l ++ (if r.f1 = key ∧ r.f3 = 1 ∧ r.f0 ≤ tick then [r] else []) := by
  unfold apartL
  rw [own_snoc]
  by_cases h : r.f1 = key ∧ r.f3 = 1
  · rw [if_pos h, List.filter_append]
    by_cases h2 : r.f0 ≤ tick <;> simp [h, h2]
  · rw [if_neg h, if_neg (fun e => h ⟨e.1, e.2.1⟩), List.append_nil]
theorem apartL_sub (key : ByteArray) (tick : Int) (l : List S42) : (apartL key tick l).Sublist l := (List.filter_sublist).trans (List.filter_sublist)
theorem own_apart (key : ByteArray) (tick : Int) (l : List S42) : own key (apartL key tick l) = apartL key tick l := by
  unfold own
  rw [List.filter_eq_self]
  intro r hr
  have := own_mem (List.mem_filter.1 hr).1
  simp [this.2.1, this.2.2]
theorem owed_apart (kind num den width count tick : Int) (key : ByteArray) (l : List S42) : owedX kind num den width count tick (own key (apartL key tick l)) = owedX kind num den width count tick (own key l) := by
  rw [own_apart]
  unfold owedX
  have : upto tick (backs (apartL key tick l)) = upto tick (backs (own key l)) := by
    rw [upto_eq, upto_eq, apartL, ← List.filter_reverse, List.filter_filter]
    congr 1
    funext r
    simp
  rw [this]

theorem apart_l0 (a0 a1 a2 a3 a4 a5 a6 a7 a8 a9 : Int) (l : List S42) (key : ByteArray) (tick : Int) (hl : l.length ≤ 10000) : ∀ (n j : Nat), l.length - j < n → j ≤ l.length →
    reevelaw16_ExactApart.l0 n l key tick (apartL key tick (l.take j)) (j : Int) a0 a1 a2 a3 a4 a5 a6 a7 a8 a9 =
      reevelaw16_ExactApart.l0 1 l key tick (apartL key tick l) (l.length : Int) a0 a1 a2 a3 a4 a5 a6 a7 a8 a9
  | 0, j, h, _ => by omega
  | n + 1, j, h, hj => by
    by_cases hlt : j < l.length
    · have ih := apart_l0 a0 a1 a2 a3 a4 a5 a6 a7 a8 a9 l key tick hl n (j + 1) (by omega) (by omega)
      rw [← ih, take_rd l j hlt, apartL_snoc]
      conv => lhs; unfold reevelaw16_ExactApart.l0
      rw [if_pos (by omega), if_pos (by omega), wrap_succ hlt hl]
      have hlen : (apartL key tick (l.take j)).length < 3518437208883 := by
        have := (apartL_sub key tick (l.take j)).length_le
        simp at this; omega
      by_cases h1 : (rd_T42 l (j : Int)).f1 = key
      · rw [if_pos ((same_key _ _).2 h1)]
        by_cases h2 : (rd_T42 l (j : Int)).f3 = 1
        · rw [if_pos h2]
          by_cases h3 : (rd_T42 l (j : Int)).f0 ≤ tick
          · rw [if_pos h3, if_pos hlen, if_pos ⟨h1, h2, h3⟩]
          · rw [if_neg h3, if_neg (fun e => h3 e.2.2), List.append_nil]
        · rw [if_neg h2, if_neg (fun e => h2 e.2.1), List.append_nil]
      · rw [if_neg (fun e => h1 ((same_key _ _).1 e)), if_neg (fun e => h1 e.1), List.append_nil]
    · obtain rfl : j = l.length := by omega
      rw [List.take_length]
      unfold reevelaw16_ExactApart.l0
      rw [if_neg (by omega), if_neg (by omega)]
      rfl

theorem apart_true : apart_pure := by
  intro a0 a1 a2 a3 a4 a5 a6 a7 a8 a9 l key tick _ _ _ _ _ _ _ _ _ _ hsz hin hk wt
  refine ⟨l.length + 2, ?_⟩
  unfold reevelaw16_ExactApart.f
  rw [awake_true]
  simp only [Option.bind_some, if_true]
  by_cases h1 : (l.length : Int) > 200
  · rw [decide_eq_true h1]; simp [reevelaw16_ExactApart.j0]
  rw [decide_eq_false h1]
  unfold reevelaw16_ExactApart.j0
  simp only [exact_Verdicts.f, Option.bind_some, if_false, Bool.false_eq_true]
  by_cases hz : rightX a0 a1 a2 a3 a4 a5 a6 a7 a8 a9 l = 0
  · have hg := right_good.1 hz
    have hv : VerdictsX a0 a1 a2 a3 a4 a5 a6 a7 a8 a9 l = (verdL a0 a1 a2 a3 a4 a5 a6 l, 0) := by rw [VerdictsX, if_pos hz]
    rw [hv, if_pos rfl]
    have h0 := apart_l0 a0 a1 a2 a3 a4 a5 a6 a7 a8 a9 l key tick (by omega) (l.length + 1) 0 (by omega) (Nat.zero_le _)
    have e0 : apartL key tick (l.take 0) = [] := rfl
    rw [e0] at h0
    rw [show (0 : Int) = ((0 : Nat) : Int) from rfl, h0]
    unfold reevelaw16_ExactApart.l0
    rw [if_neg (by omega)]
    have hg2 := good_sub hg (apartL_sub key tick l)
    simp only [exact_Owed.f, if_pos hk, Option.bind_some]
    have e1 : OwedX a0 a1 a2 a3 a4 a5 a6 a7 a8 a9 l key tick = if tickB tick = true then owedX a0 a2 a3 a4 a5 tick (own key l) else 0 := by rw [OwedX, if_pos hz]
    have e2 : OwedX a0 a1 a2 a3 a4 a5 a6 a7 a8 a9 (apartL key tick l) key tick = if tickB tick = true then owedX a0 a2 a3 a4 a5 tick (own key l) else 0 := by rw [OwedX, if_pos (right_good.2 hg2), owed_apart]
    rw [e1, e2, if_pos rfl]
    have hok := good_okR hg
    have hpos : 0 ≤ (if tickB tick = true then owedX a0 a2 a3 a4 a5 tick (own key l) else 0) := by
      split
      · rename_i ht
        exact (owedX_bound (pol_ok hg.pol).1 (fun r hr => hok r (own_mem hr).1) (of_decide_eq_true ht).1).1
      · exact Int.le_refl _
    rw [if_pos hpos]
    by_cases hn : ((apartL key tick l).length : Int) > 0
    · rw [if_pos hn]
    · rw [if_neg hn]
      have hnil : apartL key tick l = [] := List.eq_nil_of_length_eq_zero (by omega)
      have hzero : owedX a0 a2 a3 a4 a5 tick (own key l) = 0 := by
        rw [← owed_apart, hnil]
        unfold owedX
        have : upto tick (backs (own key [])) = [] := by simp [own, backs, upto]
        rw [this]
        split <;> rfl
      rw [hzero]
      simp
  · have hv : VerdictsX a0 a1 a2 a3 a4 a5 a6 a7 a8 a9 l = ([], rightX a0 a1 a2 a3 a4 a5 a6 a7 a8 a9 l) := by rw [VerdictsX, if_neg hz]
    rw [hv, if_neg hz]

end Go.Proofs.Ytmlpahjmebfgbaa.Own
namespace Go.Proofs.Ytmlpahjmebfgbaa
theorem exact_apart : Rows.ExactApartSaid := Own.apart_holds Own.apart_true
end Go.Proofs.Ytmlpahjmebfgbaa
