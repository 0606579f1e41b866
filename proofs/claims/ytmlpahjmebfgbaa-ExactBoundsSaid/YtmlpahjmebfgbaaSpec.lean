/- What the exact layer answers, in plain terms; the list's check. -/
import Derived.Test.YtmlpahjmebfgbaaRead
namespace Go.Proofs.Ytmlpahjmebfgbaa.Own
open Go.RowKit Go.Proofs.YtmlpahjmebfgbaaW.PrintWords Go.Proofs.YtmlpahjmebfgbaaW.PrintLast Go.Proofs.YtmlpahjmebfgbaaW.PrintMore Go.Proofs.Ytmlpahjmebfgbaa.PEx
set_option linter.unusedVariables false
set_option linter.unusedSimpArgs false

/-- Why a record may not be. -/
def recE (r : S42) : Int :=
  if 0 ≤ r.f0 ∧ r.f0 ≤ 1099511627776 then (if 1 ≤ r.f1.size ∧ r.f1.size ≤ 64 then (if 1 ≤ r.f2 ∧ r.f2 ≤ 1048576 then (if 0 ≤ r.f3 ∧ r.f3 ≤ 2 then 0 else 63) else 62) else 61) else 60
theorem recE_zero {r : S42} (h : recE r = 0) : 0 ≤ r.f0 ∧ r.f0 ≤ 1099511627776 ∧ 1 ≤ r.f1.size ∧ r.f1.size ≤ 64 ∧ 1 ≤ r.f2 ∧ r.f2 ≤ 1048576 ∧ 0 ≤ r.f3 ∧ r.f3 ≤ 2 := by
  unfold recE at h
  split at h
  · split at h
    · split at h
      · split at h
        · omega
        · omega
      · omega
    · omega
  · omega
theorem mayTick_eq (x : Int) : record_mayTick.f x = some (decide (0 ≤ x ∧ x ≤ 1099511627776)) := by
  unfold record_mayTick.f
  by_cases h : 0 ≤ x <;> simp [h]
theorem mayKey_eq (x : Int) : record_mayKey.f x = some (decide (1 ≤ x ∧ x ≤ 64)) := by
  unfold record_mayKey.f
  by_cases h : 1 ≤ x <;> simp [h]
theorem mayCost_eq (x : Int) : record_mayCost.f x = some (decide (1 ≤ x ∧ x ≤ 1048576)) := by
  unfold record_mayCost.f
  by_cases h : 1 ≤ x <;> simp [h]
theorem mayVerdict_eq (x : Int) : record_mayVerdict.f x = some (decide (0 ≤ x ∧ x ≤ 2)) := by
  unfold record_mayVerdict.f
  by_cases h : 0 ≤ x <;> simp [h]
theorem record_Right_eq (f0 : Int) (f1 : ByteArray) (f2 f3 : Int) : record_Right.f f0 f1 f2 f3 = some (recE ⟨f0, f1, f2, f3⟩) := by
  unfold record_Right.f recE
  simp only [mayTick_eq, mayKey_eq, mayCost_eq, mayVerdict_eq, Option.bind_some, decide_eq_true_eq]
  have e : (1 ≤ (f1.size : Int) ∧ (f1.size : Int) ≤ 64) ↔ (1 ≤ f1.size ∧ f1.size ≤ 64) := by omega
  simp only [e]
  split
  · split
    · split
      · split <;> rfl
      · rfl
    · rfl
  · rfl

/-- Why records may not be, one behind another. -/
def wrongX : Int → List S42 → Int
  | _, [] => 0
  | last, r :: rs => if recE r = 0 then (if r.f0 < last then 60 else wrongX r.f0 rs) else recE r
/-- Why policy and list may not be. -/
def rightX (kind cap num den width count keys slots every seg : Int) (l : List S42) : Int :=
  if polE kind cap num den width count keys slots every seg = 0 then (if 10000 < l.length then 2 else wrongX 0 l) else polE kind cap num den width count keys slots every seg

theorem wrap64_small {x : Int} (h0 : -9223372036854775808 ≤ x) (h1 : x ≤ 9223372036854775807) : wrap64 x = x := by
  unfold wrap64
  omega

theorem drop_rd (l : List S42) (j : Nat) (h : j < l.length) : l.drop j = rd_T42 l (j : Int) :: l.drop (j + 1) := by
  rw [List.drop_eq_getElem_cons h]
  congr 1
  unfold rd_T42
  rw [Int.toNat_natCast, List.getD_eq_getElem?_getD, List.getElem?_eq_getElem h]
  rfl

theorem right_l0_eq (l : List S42) (hl : l.length ≤ 10000) : ∀ (n j : Nat) (last : Int), l.length - j < n → j ≤ l.length → exact_right.l0 n last l (l.length : Int) (j : Int) = some (wrongX last (l.drop j)) := by
  intro n
  induction n with
  | zero => intro j last h; omega
  | succ n ih =>
    intro j last h hj
    unfold exact_right.l0
    by_cases hlt : j < l.length
    · rw [if_pos (by omega), if_pos (by omega), if_pos (by omega), record_Right_eq, drop_rd l j hlt]
      simp only [Option.bind_some, wrongX]
      rw [wrap64_small (by omega) (by omega), show ((j : Int) + 1) = ((j + 1 : Nat) : Int) from by omega, ih (j + 1) _ (by omega) (by omega)]
      by_cases h1 : recE (rd_T42 l (j : Int)) = 0
      · simp only [h1, if_true]
        split <;> rfl
      · simp only [h1, if_false]
    · rw [if_neg (by omega), List.drop_of_length_le (by omega)]
      rfl

theorem right_eq (a0_0 a0_1 a0_2 a0_3 a0_4 a0_5 a0_6 a0_7 a0_8 a0_9 : Int) (l : List S42) : exact_right.f (l.length + 1) a0_0 a0_1 a0_2 a0_3 a0_4 a0_5 a0_6 a0_7 a0_8 a0_9 l = some (rightX a0_0 a0_1 a0_2 a0_3 a0_4 a0_5 a0_6 a0_7 a0_8 a0_9 l) := by
  unfold exact_right.f policy_Right.f rightX
  simp only [Option.bind_some]
  split
  · by_cases h : 10000 < l.length
    · rw [if_pos (by omega), if_pos h]
    · rw [if_neg (by omega), if_neg h]
      have := right_l0_eq l (by omega) (l.length + 1) 0 0 (by omega) (by omega)
      simpa using this
  · rfl

/-- Policy and list may be. -/
structure Good (kind cap num den width count keys slots every seg : Int) (l : List S42) : Prop where
  pol : polB kind cap num den width count keys slots every seg = true
  len : l.length ≤ 10000
  recs : ∀ r ∈ l, recE r = 0
  sorted : l.Pairwise (fun a b => a.f0 ≤ b.f0)
theorem wrong_zero : ∀ (l : List S42) (last : Int), wrongX last l = 0 ↔ (∀ r ∈ l, recE r = 0) ∧ (∀ r ∈ l, last ≤ r.f0) ∧ l.Pairwise (fun a b => a.f0 ≤ b.f0)
  | [], last => by simp [wrongX]
  | r :: rs, last => by
    unfold wrongX
    have ih := wrong_zero rs r.f0
    by_cases h1 : recE r = 0
    · rw [if_pos h1]
      by_cases h2 : r.f0 < last
      · rw [if_pos h2]
        constructor
        · intro h; omega
        · intro h; have := h.2.1 r (by simp); omega
      · rw [if_neg h2, ih]
        constructor
        · rintro ⟨g1, g2, g3⟩
          refine ⟨fun x hx => ?_, fun x hx => ?_, List.pairwise_cons.2 ⟨g2, g3⟩⟩
          · rcases List.mem_cons.1 hx with rfl | hx
            · exact h1
            · exact g1 x hx
          · rcases List.mem_cons.1 hx with rfl | hx
            · omega
            · have := g2 x hx; omega
        · rintro ⟨g1, g2, g3⟩
          exact ⟨fun x hx => g1 x (by simp [hx]), (List.pairwise_cons.1 g3).1, (List.pairwise_cons.1 g3).2⟩
    · rw [if_neg h1]
      constructor
      · intro h; exact absurd h h1
      · rintro ⟨g1, _⟩; exact absurd (g1 r (by simp)) h1
theorem right_good {kind cap num den width count keys slots every seg : Int} {l : List S42} : rightX kind cap num den width count keys slots every seg l = 0 ↔ Good kind cap num den width count keys slots every seg l := by
  unfold rightX
  constructor
  · intro h
    split at h
    · rename_i hp
      split at h
      · omega
      · obtain ⟨h1, h2, h3⟩ := (wrong_zero l 0).1 h
        refine ⟨?_, by omega, h1, h3⟩
        by_cases hb : polB kind cap num den width count keys slots every seg = true
        · exact hb
        · rw [polE_bad hb] at hp; omega
    · rename_i hp; exact absurd h hp
  · rintro ⟨h1, h2, h3, h4⟩
    rw [if_pos (polE_ok h1), if_neg (by omega)]
    exact (wrong_zero l 0).2 ⟨h3, fun r hr => (recE_zero (h3 r hr)).1, h4⟩

def okP (kind num den width count : Int) : Prop := (kind = 1 ∧ 1 ≤ num ∧ num ≤ 65536 ∧ 1 ≤ den ∧ den ≤ 65536) ∨ (kind = 2 ∧ 1 ≤ width ∧ width ≤ 1048576 ∧ 1 ≤ count ∧ count ≤ 32)
set_option maxRecDepth 10000 in
theorem pol_ok {kind cap num den width count keys slots every seg : Int} (h : polB kind cap num den width count keys slots every seg = true) : okP kind num den width count ∧ 1 ≤ cap ∧ cap ≤ 1048576 ∧ 1 ≤ keys ∧ keys ≤ 1000 := by
  simp only [polB, decide_eq_true_eq] at h
  unfold okP
  omega
theorem good_okR {kind cap num den width count keys slots every seg : Int} {l : List S42} (h : Good kind cap num den width count keys slots every seg l) : ∀ r ∈ l, okR r := fun r hr => by
  have := recE_zero (h.recs r hr)
  obtain ⟨h1, h2, h3, h4, h5, h6, h7, h8⟩ := this
  exact ⟨h1, h2, h5, h6⟩

theorem owed_any (kind cap num den width count keys slots every seg : Int) (tick : Int) (A : Option Addr) (c : Nat) (l : List S42) (w : World) (hr : Kd.C k42 w A l.length l) (hp : okP kind num den width count)
    (hok : ∀ r ∈ l, okR r) (ht0 : 0 ≤ tick) (ht : tick ≤ 1099511627776) (hlen : l.length ≤ 10000) :
    Calls Try.prog 34 #[.slice A l.length c, .agg #[.int .i64 kind, .int .i64 cap, .int .i64 num, .int .i64 den, .int .i64 width, .int .i64 count, .int .i64 keys, .int .i64 slots, .int .i64 every, .int .i64 seg], .int .i64 tick] w fun e w' =>
      e = .returned (.int .i64 (owedX kind num den width count tick l)) ∧ Below w.heap.size w w' := by
  rcases hp with ⟨rfl, h1, h2, h3, h4⟩ | ⟨rfl, h1, h2, h3, h4⟩
  · exact owed_bucket cap num den width count keys slots every seg tick A c l w hr h1 h2 h3 h4 hok ht0 ht hlen
  · exact owed_window cap num den width count keys slots every seg tick A c l w hr h1 h2 h3 h4 hok ht0 ht hlen


set_option maxRecDepth 100000 in
theorem Book.look {w : World} {b : Nat} {xs : List S42} (h : Book w b xs) {key : ByteArray} (hk : key.size ≤ maxLen) :
    ∃ A c, (Instr.lookup 59 (.map (some b)) (.string key) false).run Try.prog w = .ok (.slice A (own key xs).length c) w ∧ (own key xs).length ≤ c ∧ Kd.C k42 w A (own key xs).length (own key xs) := by
  obtain ⟨D, n, hown, hn, hD⟩ := h
  obtain ⟨v0, hv0, A, c, e0, hc, hnil, hC, _⟩ := (hD key).2
  subst e0
  have hkey := WideMaps.keyOf_string_mk (P := Try.prog) Try.underlying9 hk
  obtain ⟨vl, ps, hlook, hvl⟩ := hown.lookup kBook Try.underlying59 (zero63 w) (z := .slice none 0 0) (zd := .held (.slice none 0 0)) (zp := []) rfl hkey
  have hvl' : vl = .slice A (own key xs).length c := by
    have h1 : D.atKey (lk key) (.held (.slice none 0 0)) = .held vl := by
      have := congrArg Prod.fst (Option.some.inj hvl); exact this.symm
    rw [hv0] at h1; injection h1 with h1; exact h1.symm
  subst hvl'
  exact ⟨A, c, hlook, hc, hC⟩
end Go.Proofs.Ytmlpahjmebfgbaa.Own
