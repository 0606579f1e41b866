/- Lemmas for a claim of this seat: texts of this session and of the kit's print, without what this claim does not use. -/
import Derived.Test.YtmlpahjmebfgbaaUExBase
import Derived.Test.YtmlpahjmebfgbaaUIter
import Derived.Outline
namespace Go.Proofs.Ytmlpahjmebfgbaa.Own
open Go.RowKit Go.Proofs.YtmlpahjmebfgbaaW.PrintWords Go.Proofs.YtmlpahjmebfgbaaW.PrintLast Go.Proofs.Ytmlpahjmebfgbaa.PEx
set_option linter.unusedVariables false
set_option linter.unusedSimpArgs false
attribute [local go_sem] Oper.semAt_some

theorem block_of_add (a : Addr) (n : Nat) : (a.add n).block = a.block := by unfold Addr.add; split <;> rfl
/-- A record as a value. -/
def recV (r : S42) : Value := .agg #[.int .i64 r.f0, .string r.f1, .int .i64 r.f2, .int .i64 r.f3]
abbrev encB (x : Int × S42) : Array Value := #[.int .i64 x.1, .agg #[.int .i64 x.2.f0, .string x.2.f1, .int .i64 x.2.f2, .int .i64 x.2.f3]]
/-- What Backward tells: the places and records, the last first. -/
def backs (l : List S42) : List (Int × S42) := (List.range l.length).reverse.map fun (j : Nat) => ((j : Int), rd_T42 l (j : Int))
/-- .. those told when j and all behind have come. -/
def backTo (l : List S42) (j : Nat) : List (Int × S42) := ((List.range l.length).drop j).reverse.map fun (j : Nat) => ((j : Int), rd_T42 l (j : Int))
theorem backTo_zero (l : List S42) : backTo l 0 = backs l := by simp [backTo, backs]
theorem backTo_all (l : List S42) : backTo l l.length = [] := by simp [backTo]
theorem backTo_step (l : List S42) (j : Nat) (h : j < l.length) : backTo l j = backTo l (j + 1) ++ [((j : Int), rd_T42 l (j : Int))] := by
  unfold backTo
  rw [List.drop_eq_getElem_cons (by simpa using h)]
  simp
theorem backTo_pre (l : List S42) (j : Nat) : backTo l j <+: backs l := by
  unfold backTo backs
  refine List.IsPrefix.map _ ?_
  rw [List.reverse_prefix]
  exact List.drop_suffix _ _

set_option maxRecDepth 100000 in
set_option maxHeartbeats 1000000 in
theorem backward_fn (m Bs : Nat) (A : Option Addr) (c : Nat) (l : List S42) (w : World) (hB : w.cell? ⟨Bs, 0, none⟩ = some (.slice A l.length c)) (hr : Kd.C k42 w A l.length l) :
    Iter Try.prog m 80 #[.pointer (some ⟨Bs, 0, none⟩)] encB (backs l) (fun k => k = Bs ∨ ∃ ad, A = some ad ∧ 0 < l.length ∧ k = ad.block) w := by
  intro y ex J Jx W hW hex hcare hJ hJx hY h0
  have hlen : l.length ≤ 9223372036854775807 := hr.2.1
  have hBlt : Bs < w.heap.size := World.block_lt_of_cell? w _ hB
  refine callsIn_of_wp Try.func80 rfl trivial ?_ rfl
  simp only [Try.ntmps80, List.size_toArray, List.length_cons, List.length_nil, Nat.reduceAdd, Nat.reduceSub, Array.replicate_succ, Array.replicate_zero, List.push_toArray, List.append_toArray, List.nil_append, List.cons_append]
  have hBW : W.cell? ⟨Bs, 0, none⟩ = some (.slice A l.length c) := (hW.cell (p := ⟨Bs, 0, none⟩) hBlt).trans hB
  gi_wp2
  gi_loopw [3] (fun i wr => ((∃ j : Nat, j < l.length ∧ i = .int .i64 (j : Int) ∧ J (backTo l (j + 1)) wr) ∨ (i = .int .i64 (-1) ∧ J (backs l) wr)) ∧ Keeps ex W wr)
    (fun i _ => (intOf i + 1).toNat)
  case atStart =>
    refine ⟨?_, Keeps.refl _ _⟩
    rcases Nat.eq_zero_or_pos l.length with h | h
    · right
      refine ⟨by rw [h]; rfl, ?_⟩
      have : backs l = [] := by simp [backs, h]
      rw [this]; exact h0
    · left
      refine ⟨l.length - 1, by omega, by rw [show ((l.length - 1 : Nat) : Int) = (l.length : Int) - 1 from by omega], ?_⟩
      rw [show l.length - 1 + 1 = l.length from by omega, backTo_all]; exact h0
  case round =>
    obtain ⟨hcase, hK⟩ := hrel
    have HK := Aside0.mk hK
    clear hK
    rcases hcase with ⟨j, hj, rfl, hJs⟩ | ⟨rfl, hJs⟩
    · have hBr : wr.cell? ⟨Bs, 0, none⟩ = some (.slice A l.length c) := (HK.out.cell (p := ⟨Bs, 0, none⟩) (Nat.lt_of_lt_of_le hBlt hW.size) (hcare _ (.inl rfl))).trans hBW
      obtain ⟨ad, eA, c0, c1, c2, c3⟩ := at_T42 hr (j : Int) (by omega) (by omega)
      obtain ⟨fn, tmps, assign, body, hy, hR⟩ := hY (backTo l (j + 1)) ((j : Int), rd_T42 l (j : Int)) wr hJs (by rw [← backTo_step l j hj]; exact backTo_pre l j)
      simp only [encB] at hy
      subst eA
      have hal : (ad.add ((j : Int).toNat * 4)).block < W.heap.size := Nat.lt_of_lt_of_le (World.block_lt_of_cell? w _ c0) hW.size
      have hae : ¬ ex (ad.add ((j : Int).toNat * 4)).block := by rw [block_of_add]; exact hcare _ (.inr ⟨ad, rfl, by omega, rfl⟩)
      replace c0 := (HK.out.cell (p := ad.add ((j : Int).toNat * 4)) hal hae).trans ((hW.cell (World.block_lt_of_cell? w _ c0)).trans c0)
      replace c1 := (HK.out.cell (p := ⟨(ad.add ((j : Int).toNat * 4)).block, _, none⟩) hal hae).trans ((hW.cell (World.block_lt_of_cell? w _ c1)).trans c1)
      replace c2 := (HK.out.cell (p := ⟨(ad.add ((j : Int).toNat * 4)).block, _, none⟩) hal hae).trans ((hW.cell (World.block_lt_of_cell? w _ c2)).trans c2)
      replace c3 := (HK.out.cell (p := ⟨(ad.add ((j : Int).toNat * 4)).block, _, none⟩) hal hae).trans ((hW.cell (World.block_lt_of_cell? w _ c3)).trans c3)
      simp only [Int.toNat_natCast] at c0 c1 c2 c3
      have i0 : (0 : Int) ≤ (j : Int) := by omega
      have i1 : (j : Int) < (l.length : Int) := by omega
      gi_wp2
      refine ⟨fun h => (by cases h), (round_any hR).mono ?_⟩
      rintro e W3 ⟨hk3, (⟨rfl, hJ3⟩ | ⟨rfl, hJ3⟩)⟩
      · rw [← backTo_step l j hj] at hJ3
        clear c0 c1 c2 c3 hBr hy
        gi_wp2
        have HN : Aside0 (Keeps ex W W3) := ⟨HK.out.trans hk3⟩
        cases j with
        | zero =>
          go_roundw
          case rel => exact ⟨.inr ⟨rfl, by rw [← backTo_zero]; exact hJ3⟩, HN.out⟩
          case measure => simp [intOf]
        | succ j =>
          go_roundw
          case rel => exact ⟨.inl ⟨j, by omega, by go_num, hJ3⟩, HN.out⟩
          case measure => simp [intOf]; omega
      · gi_wp2
        refine bodyPost_ret (results_none rfl _ _ _) rfl ?_
        exact ⟨⟨_, rfl⟩, HK.out.trans hk3, .inr ⟨_, by rw [← backTo_step l j hj]; exact backTo_pre l j, hJ3⟩⟩
    · gi_wp2
      go_end0
      exact ⟨⟨_, rfl⟩, HK.out, .inl hJs⟩
end Go.Proofs.Ytmlpahjmebfgbaa.Own
