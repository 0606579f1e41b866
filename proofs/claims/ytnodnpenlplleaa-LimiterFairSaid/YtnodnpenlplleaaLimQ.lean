/- Layer 10: with room for all, each is decided as alone: the plain law. -/
import Derived.Test.YtnodnpenlplleaaLimP
namespace Go.Proofs.Ytnodnpenlplleaa.Own
open Go.RowKit Go.Proofs.YtnodnpenlplleaaW.PrintWords Go.Proofs.YtnodnpenlplleaaW.PrintLast Go.Proofs.YtnodnpenlplleaaW.PrintMore
set_option linter.unusedVariables false
set_option linter.unusedSimpArgs false

theorem nodup_sub {α : Type} [DecidableEq α] : ∀ {a b : List α}, a.Nodup → (∀ x ∈ a, x ∈ b) → a.length ≤ b.length
  | [], _, _, _ => Nat.zero_le _
  | x :: a, b, h, hs => by
    rw [List.nodup_cons] at h
    have hx : x ∈ b := hs x (by simp)
    have h1 : a.length ≤ (b.erase x).length := nodup_sub h.2 (fun y hy => by
      have hne : y ≠ x := fun e => h.1 (e ▸ hy)
      exact (List.mem_erase_of_ne hne).2 (hs y (by simp [hy])))
    rw [List.length_erase_of_mem hx] at h1
    have h2 : 0 < b.length := List.length_pos_of_mem hx
    simp only [List.length_cons]
    omega
theorem sorted_nodup {l : List ByteArray} (h : l.Pairwise klt) : l.Nodup := h.imp (fun {a b} hab e => by subst e; exact klt_irrefl _ hab)

/-- What a key owes, moved to a tick. -/
def owedAt (p : Pol) (s : LSt) (key : ByteArray) (t : Int) : Option Debt := (lookR s.rows key).bind (lateD p s.tick t)
theorem look_ask {p : Pol} {s : LSt} (hs : OkR p s.tick s.rows) (t : Int) (key : ByteArray) : lookR (askM p s t) key = owedAt p s key t := look_move key hs.sorted
theorem owedAt_two {p : Pol} {s : LSt} (hs : OkR p s.tick s.rows) (key : ByteArray) {b c : Int} (h1 : s.tick ≤ b) (h2 : b ≤ 1099511627776) (h3 : b ≤ c) : (owedAt p s key b).bind (lateD p b c) = owedAt p s key c := by
  unfold owedAt
  cases e : lookR s.rows key with
  | none => rfl
  | some d => exact lateD_bind hs.pol (hs.debts _ (lookR_mem e)).1 hs.tick0 h1 h3 h2
theorem late_self {p : Pol} {s : LSt} (hs : OkR p s.tick s.rows) (key : ByteArray) : True := trivial

/-- The first answers as the second, which was asked of one key alone. -/
structure Fair (p : Pol) (key : ByteArray) (ks : List ByteArray) (x y : LSt) : Prop where
  okx : OkR p x.tick x.rows
  oky : OkR p y.tick y.rows
  tick : y.tick ≤ x.tick
  same : ∀ t, x.tick ≤ t → t ≤ 1099511627776 → owedAt p y key t = owedAt p x key t
  subx : ∀ k ∈ keysR x.rows, k ∈ ks
  suby : ∀ k ∈ keysR y.rows, k = key
  room : (ks.length : Int) ≤ p.keys
  one : 1 ≤ p.keys
theorem fair_start {p : Pol} (hp : p.ok) (key : ByteArray) {ks : List ByteArray} (h : (ks.length : Int) ≤ p.keys) : Fair p key ks ⟨0, []⟩ ⟨0, []⟩ :=
  ⟨new_ok hp, new_ok hp, Int.le_refl _, fun _ _ _ => rfl, fun _ h => by simp [keysR] at h, fun _ h => by simp [keysR] at h, h, by have := Pol.is hp; omega⟩
theorem keys_askM {p : Pol} {s : LSt} {t : Int} {k : ByteArray} (h : k ∈ keysR (askM p s t)) : k ∈ keysR s.rows := (keys_move (p := p) (a := s.tick) (b := t) s.rows).subset h
theorem full_none {p : Pol} {s : LSt} (hs : OkR p s.tick s.rows) {t : Int} {k : ByteArray} {ks : List ByteArray} (h0 : s.tick ≤ t) (h1 : t ≤ 1099511627776) (hsub : ∀ k ∈ keysR s.rows, k ∈ ks) (hk : k ∈ ks) (hr : (ks.length : Int) ≤ p.keys) : fullR p (askM p s t) k = false := by
  unfold fullR
  cases e : lookR (askM p s t) k with
  | some d => rfl
  | none =>
    have hn := lookR_none.1 e
    have hm : OkR p t (askM p s t) := move_ok hs h0 h1
    have hl : (k :: keysR (askM p s t)).length ≤ ks.length := nodup_sub (List.nodup_cons.2 ⟨hn, sorted_nodup hm.sorted⟩) (fun y hy => by
      rcases List.mem_cons.1 hy with rfl | hy
      · exact hk
      · exact hsub _ (keys_askM hy))
    have e2 : (keysR (askM p s t)).length = (askM p s t).length := by simp [keysR]
    rw [List.length_cons, e2] at hl
    simp only [Option.isSome_none, Bool.not_false, Bool.true_and, decide_eq_false_iff_not]
    omega
section
variable {p : Pol} {key : ByteArray} {ks : List ByteArray} {x y : LSt}
theorem Fair.roomy (h : Fair p key ks x y) {t : Int} {k : ByteArray} {c : Int} (hk : k ∈ ks) (he : askE x t k c = 0) : askV p x t k c ≠ 2 := by
  obtain ⟨h1, _, h3, _⟩ := rightE_ok he
  have hf := full_none (p := p) h.okx h1 h3 h.subx hk h.room
  unfold askV
  rw [if_pos he, hf, if_neg (by decide)]
  split <;> decide
theorem askS_keys {s : LSt} {t : Int} {k : ByteArray} {c : Int} {k' : ByteArray} (h : k' ∈ keysR (askS p s t k c).rows) : k' = k ∨ k' ∈ keysR s.rows := by
  unfold askS at h
  split at h
  · simp only at h
    split at h
    · unfold chargeR at h
      split at h
      · rcases (keys_insert _ _ _ _).1 h with e | h
        · exact .inl e
        · exact .inr (keys_askM h)
      · exact .inr (keys_askM h)
    · exact .inr (keys_askM h)
  · exact .inr h
theorem look_askS {s : LSt} (hs : OkR p s.tick s.rows) {t : Int} {k : ByteArray} {c : Int} (he : askE s t k c = 0) (k' : ByteArray) :
    lookR (askS p s t k c).rows k' = if askV p s t k c = 1 ∧ k = k' then some ((debtR p t (askM p s t) k).take p c) else owedAt p s k' t := by
  obtain ⟨h1, h2, h3, h4, h5, _⟩ := rightE_ok he
  have hm : OkR p t (askM p s t) := move_ok hs h1 h3
  have hce : chargeE k c = 0 := by unfold chargeE; rw [if_pos h4, if_pos h5]
  unfold askS
  rw [if_pos he]
  simp only
  by_cases hv : askV p s t k c = 1
  · rw [if_pos hv]
    unfold chargeR
    rw [if_pos hce, lookR_insert _ _ _ _ hm.sorted]
    by_cases hk : k = k'
    · rw [if_pos hk, if_pos ⟨hv, hk⟩]
    · rw [if_neg hk, if_neg (fun h => hk h.2), look_ask hs]
  · rw [if_neg hv, if_neg (fun h => hv h.1), look_ask hs]
theorem askS_tick {s : LSt} {t : Int} {k : ByteArray} {c : Int} (he : askE s t k c = 0) : (askS p s t k c).tick = t := by
  unfold askS
  rw [if_pos he]
/-- Another key was asked. -/
theorem Fair.other (h : Fair p key ks x y) {t : Int} {k : ByteArray} {c : Int} (hk : k ∈ ks) (hne : k ≠ key) (he : askE x t k c = 0) : Fair p key ks (askS p x t k c) y := by
  obtain ⟨h1, h2, h3, h4, h5, _⟩ := rightE_ok he
  have htick := askS_tick (p := p) he
  refine ⟨askS_ok h.okx t k c, h.oky, by rw [htick]; exact Int.le_trans h.tick h1, fun t' ht hm => ?_, fun k' hk' => ?_, h.suby, h.room, h.one⟩
  · rw [htick] at ht
    rw [h.same t' (Int.le_trans h1 ht) hm]
    rw [show owedAt p (askS p x t k c) key t' = (lookR (askS p x t k c).rows key).bind (lateD p (askS p x t k c).tick t') from rfl, htick, look_askS h.okx he, if_neg (fun hh => hne hh.2)]
    exact (owedAt_two h.okx key h1 h3 ht).symm
  · rcases askS_keys hk' with e | hk'
    · rw [e]; exact hk
    · exact h.subx _ hk'
/-- The key itself was asked. -/
theorem Fair.own (h : Fair p key ks x y) {t : Int} {c : Int} (hk : key ∈ ks) (he : askE x t key c = 0) : askE y t key c = 0 ∧ askV p x t key c = askV p y t key c ∧ Fair p key ks (askS p x t key c) (askS p y t key c) := by
  obtain ⟨h1, h2, h3, h4, h5, h6⟩ := rightE_ok he
  have hy : askE y t key c = 0 := by
    unfold askE rightE recE
    rw [if_neg (by have := h.tick; omega), if_pos ⟨h2, h3⟩, if_pos h4, if_pos h5, if_pos h6]
  have hsame := h.same t h1 h3
  have hfx := full_none (p := p) h.okx h1 h3 h.subx hk h.room
  have hfy := full_none (p := p) (s := y) (k := key) (ks := [key]) h.oky (Int.le_trans h.tick h1) h3 (fun k hk => by rw [h.suby k hk]; simp) (by simp) (by have := h.one; simpa using this)
  have hd : debtR p t (askM p x t) key = debtR p t (askM p y t) key := by
    unfold debtR
    rw [look_ask h.okx, look_ask h.oky, hsame]
  have hm : mayR p t (askM p x t) key c = mayR p t (askM p y t) key c := by
    unfold mayR
    rw [hd]
  have hv : askV p x t key c = askV p y t key c := by
    unfold askV
    rw [if_pos he, if_pos hy, hfx, hfy, hm]
  refine ⟨hy, hv, askS_ok h.okx t key c, askS_ok h.oky t key c, by rw [askS_tick he, askS_tick hy]; exact Int.le_refl _, fun t' ht hmx => ?_, fun k' hk' => ?_, fun k' hk' => ?_, h.room, h.one⟩
  · show (lookR (askS p y t key c).rows key).bind (lateD p (askS p y t key c).tick t') = (lookR (askS p x t key c).rows key).bind (lateD p (askS p x t key c).tick t')
    rw [askS_tick he, askS_tick hy, look_askS h.okx he, look_askS h.oky hy, ← hv, hd, hsame]
  · rcases askS_keys hk' with e | hk'
    · rw [e]; exact hk
    · exact h.subx _ hk'
  · rcases askS_keys hk' with e | hk'
    · exact e
    · exact h.suby _ hk'
theorem askS_err {s : LSt} {t : Int} {k : ByteArray} {c : Int} (he : askE s t k c ≠ 0) : askS p s t k c = s := by
  unfold askS
  rw [if_neg he]
theorem askV_err {s : LSt} {t : Int} {k : ByteArray} {c : Int} (he : askE s t k c ≠ 0) : askV p s t k c = 0 := by
  unfold askV
  rw [if_neg he]
end
end Go.Proofs.Ytnodnpenlplleaa.Own
