/- Layer 9: a ledger's bytes as the laws hold them. -/
import Derived.Test.YtnodnpenlplleaaSame
import Derived.Test.YtnodnpenlplleaaLedQ
namespace Go.Proofs.Ytnodnpenlplleaa.Own
open Go.RowKit Go.Proofs.YtnodnpenlplleaaW.PrintWords Go.Proofs.YtnodnpenlplleaaW.PrintLast Go.Proofs.YtnodnpenlplleaaW.PrintMore
set_option linter.unusedVariables false
set_option linter.unusedSimpArgs false

/-- A row of bytes of one's own. -/
def BR (w : World) (A : Option Addr) (c : Nat) (xs : List Int) : Prop := Kd.R (Kd.int .u8) 5 w 0 (fun _ => True) (.slice A xs.length c) xs
theorem BR.below {w w' : World} {A : Option Addr} {c : Nat} {xs : List Int} (h : BR w A c xs) (hb : Below w.heap.size w w') : BR w' A c xs := Kd.R_below h hb
theorem BR.keeps {n : Nat} {w w' : World} {A : Option Addr} {c : Nat} {xs : List Int} {sb mb : Nat} {p : Pol} {s : LSt} (h : BR w A c xs) (hl : LedI n w sb mb p s) (hk : Keeps (fun k => k = sb ∨ k = mb) w w') : BR w' A c xs := by
  refine Kd.R_mono (Kd.R_move (Kd.R_bound h) (fun k hk2 => ?_)) (fun _ _ => trivial)
  obtain ⟨_, _, hlt, q, hq, cells, hcells⟩ := hk2
  refine hk.block k hlt ?_
  rintro (rfl | rfl)
  · rw [hl.led.blk] at hcells
    injection hcells with hcells
    injection hcells with _ hcells
    rw [← hcells] at hq
    revert hq
    decide
  · obtain ⟨es, clock, hm⟩ := hl.led.map_blk
    rw [hm] at hcells
    cases hcells
theorem BR.reads {w : World} {A : Option Addr} {c : Nat} {xs : List Int} (h : BR w A c xs) : xs.length ≤ c ∧ Kd.C (Kd.int .u8) w A xs.length xs := (Kd.R_reads' h).2
theorem BytesI_fn (n : Nat) (w0 w : World) (sb mb : Nat) (p : Pol) (s : LSt) (h : LedI n w sb mb p s) (hn : n ≤ w.heap.size) (hb : Below n w0 w) (hlen : s.rows.length ≤ 100000) :
    Calls Try.prog 16 #[.pointer (some ⟨sb, 0, none⟩)] w fun e w' => ∃ A c, e = .returned (.slice A (bytesR s.rows).length c) ∧ BR w' A c (bytesR s.rows) ∧ Below w.heap.size w w' ∧ LedI n w' sb mb p s ∧ (Below n w0 w' ∧ n ≤ w'.heap.size) :=
  (Bytes_fn w sb mb p s.tick s.rows h.led h.ok hlen).mono fun e w' hh => by
    obtain ⟨v, e1, hR, hB⟩ := hh
    obtain ⟨A, c, ev⟩ := Kd.R_slice hR
    subst ev
    exact ⟨A, c, e1, Kd.R_lower hR (Nat.zero_le _), hB, h.below hB, hb.trans (hB.mono hn), Nat.le_trans hn hB.size⟩
theorem SameI_fn (w : World) (A B : Option Addr) (ca cb : Nat) (a b : List Int) (ha : BR w A ca a) (hb : BR w B cb b) :
    Calls Try.prog 19 #[.slice A a.length ca, .slice B b.length cb] w fun e w' => e = .returned (.bool (decide (a = b))) ∧ Below w.heap.size w w' := Same_fn w A B ca cb a b ha.reads.2 hb.reads.2
end Go.Proofs.Ytnodnpenlplleaa.Own
