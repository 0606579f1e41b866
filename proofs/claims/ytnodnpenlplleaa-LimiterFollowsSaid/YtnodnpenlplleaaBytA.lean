/- Layer 9: a number behind the bytes that a closure holds. -/
import Derived.Test.YtnodnpenlplleaaNum
namespace Go.Proofs.Ytnodnpenlplleaa.Own
open Go.RowKit Go.Proofs.YtnodnpenlplleaaW.PrintWords Go.Proofs.YtnodnpenlplleaaW.PrintLast Go.Proofs.YtnodnpenlplleaaW.PrintMore
set_option linter.unusedVariables false
set_option linter.unusedSimpArgs false

/-- Blocks of bytes. -/
def isB (w : World) (k : Nat) : Prop := ∃ cur, w.heap[k]? = some (.cells cur 5 (0, 0)) ∨ w.heap[k]? = some (.cells cur 31 (0, 0))
theorem keepsB_trans {A B C : World} (h : Keeps (isB A) A B) (k : Keeps (isB B) B C) : Keeps (isB A) A C :=
  ⟨k.os.trans h.os, k.tape.trans h.tape, k.output.trans h.output, Nat.le_trans h.size k.size, fun i hi hn => (k.block i (Nat.lt_of_lt_of_le hi h.size) (fun hb => hn (by
    obtain ⟨cur, hb⟩ := hb
    rw [h.block i hi hn] at hb
    exact ⟨cur, hb⟩))).trans (h.block i hi hn)⟩
theorem keepsB_below {A B : World} (h : Below A.heap.size A B) : Keeps (isB A) A B := Keeps.of_below h _
theorem keepsB_typed {A B : World} (h : Keeps (isB A) A B) {k : Nat} {cur : Array Value} {t : TypeId} {fr : Nat × Nat} (hk : A.heap[k]? = some (.cells cur t fr)) (h1 : t ≠ 5) (h2 : t ≠ 31) : B.heap[k]? = A.heap[k]? :=
  h.block k (Array.getElem?_eq_some_iff.1 hk).1 (fun hb => by
    obtain ⟨c2, hb | hb⟩ := hb
    · rw [hk] at hb; injection hb with hb; injection hb with _ hb; exact h1 hb
    · rw [hk] at hb; injection hb with hb; injection hb with _ hb; exact h2 hb)
/-- Bytes that are written one behind another: the variable's block, its value's row. -/
structure Out (w0 w : World) (ob : Nat) (v : Value) (xs : List Int) : Prop where
  blk : w.heap[ob]? = some (.cells #[v] 31 (0, 0))
  row : Kd.R (Kd.int .u8) 5 w w0.heap.size (fun k => k ≠ ob) v xs
  below : Below w0.heap.size w0 w
  at0 : w0.heap.size ≤ ob
theorem Out.fresh {w0 w : World} {ob : Nat} {v : Value} {xs : List Int} (h : Out w0 w ob v xs) (k : Nat) (hk : w.heap.size ≤ k) : k ≠ ob := fun e => by
  have := (Array.getElem?_eq_some_iff.1 h.blk).1
  omega
theorem Out.step {w0 w w' : World} {ob : Nat} {v : Value} {xs : List Int} (h : Out w0 w ob v xs) (hb : Below w.heap.size w w') : Out w0 w' ob v xs :=
  ⟨(hb.block _ (Array.getElem?_eq_some_iff.1 h.blk).1).trans h.blk, Kd.R_below h.row hb, h.below.trans (hb.mono h.below.size), h.at0⟩
/-- The variable gets another value. -/
theorem Out.put {w0 w w1 : World} {ob : Nat} {v v1 : Value} {xs ys : List Int} (h : Out w0 w ob v xs) (hr : Kd.R (Kd.int .u8) 5 w1 w0.heap.size (fun k => k ≠ ob) v1 ys) (hb : Below w0.heap.size w0 w1) (hg : w.grownBy w1 v.ownBlock) :
    Out w0 (w1.setCell ⟨ob, 0, none⟩ v1) ob v1 ys ∧ Keeps (isB w) w (w1.setCell ⟨ob, 0, none⟩ v1) := by
  have hlt := (Array.getElem?_eq_some_iff.1 h.blk).1
  have hblk1 : w1.heap[ob]? = some (.cells #[v] 31 (0, 0)) := (hg.block ob hlt (fun e => h.row.1 ob e.symm rfl)).trans h.blk
  have hk : Keeps (isB w) w w1 := ⟨hg.os, hg.tape, hg.output, hg.size, fun k hk hn => hg.block k hk (fun e => hn (by
    obtain ⟨inner, ho⟩ := Kd.R_own h.row
    obtain ⟨cells, hcells⟩ := own_typed ho k e.symm
    exact ⟨cells, .inl hcells⟩))⟩
  refine ⟨⟨(heap_setCell_same (o := 0) hblk1 v1).trans rfl, Kd.R_move hr (fun k hk => Below.heap_setCell w1 _ _ k (fun e => hk e)), hb.setCell (p := ⟨ob, 0, none⟩) h.at0 _, h.at0⟩, hk.setCell (.inl ⟨_, .inr h.blk⟩) _⟩

theorem results_putB (tmps : Array Value) (w : World) : Sem.run Try.prog (results Try.f39 tmps) w = .ok (.tuple #[]) w := by
  simp [results, Try.f39, go_sem]
set_option maxRecDepth 100000 in
set_option maxHeartbeats 1000000 in
theorem put_fn (n : Int) (h0 : 0 ≤ n) (h1 : n ≤ 4611686018427387903) (w0 w : World) (ob : Nat) (v : Value) (xs : List Int) (ho : Out w0 w ob v xs) (hl : xs.length + 9 ≤ 140737488355328) :
    Calls Try.prog 39 #[.int .i64 n, .pointer (some ⟨ob, 0, none⟩)] w fun e w' => e = .returned (.tuple #[]) ∧ ∃ v', Out w0 w' ob v' (xs ++ numB n) ∧ Keeps (isB w) w w' := by
  have HN := Aside0.mk (fun w' => Number_fn n w' h0 h1)
  have HL := Aside0.mk (numB_length h1)
  have HO := Aside0.mk ho
  generalize numB n = ys at HN HL ⊢
  clear ho
  go_enter Try.func39, Try.ntmps39
  go_wp2_with fail
  refine (HN.out _).mono ?_
  rintro e w1 ⟨b, rfl, hR, hb1⟩
  obtain ⟨A1, c1, eb, hc1, hC1⟩ := Kd.R_reads hR
  subst eb
  have HC1 := Aside0.mk hC1
  have HO1 := Aside0.mk (HO.out.step hb1)
  have HK1 := Aside0.mk (keepsB_below hb1)
  have c0 : w1.cell? ⟨ob, 0, none⟩ = some v := by rw [cell_of_row w1 _ 0 _ _ _ HO1.out.blk]; rfl
  have f0 : w1.frozen? ⟨ob, 0, none⟩ = false := blk_frozen HO1.out.blk 0
  have hyl := HL.out
  clear hR hC1 hb1 HN HO
  go_wp2_with (first | ((with_reducible refine gate_builtin (b := .append) (xs := #[.tmp 10, .tmp 11]) rfl ?_); at_builtin; refine Kd.R_append_rows (Kd.int .u8) (Rr := (Kd.int .u8).K w1) (w0 := w0) w0.heap.size rfl (.tmp 10) (.tmp 11) 31 5 (.int .u8 0) 1 rfl Try.underlying31 infoByte rfl (by decide) (by decide) v xs ys A1 ys.length c1 (fun k => k ≠ ob) (fun _ => False) rfl rfl HO1.out.row HC1.out (fun _ _ h => h) (fun _ h => h.elim) HO1.out.fresh HO1.out.below HO1.out.below.size (by omega) ?_; intro v1 w2 hr2 hb2 hg2 hat2; obtain ⟨A2, cc2, e2⟩ := Kd.R_slice hr2; subst e2; have HP := Aside0.mk (HO1.out.put hr2 hb2 hg2); have f2 : w2.frozen? ⟨ob, 0, none⟩ = false := blk_frozen ((hg2.block ob (Array.getElem?_eq_some_iff.1 HO1.out.blk).1 (fun e => HO1.out.row.1 ob e.symm rfl)).trans HO1.out.blk) 0; have c2 : w2.cell? ⟨ob, 0, none⟩ = some v := (by rw [cell_of_row w2 _ 0 _ _ _ ((hg2.block ob (Array.getElem?_eq_some_iff.1 HO1.out.blk).1 (fun e => HO1.out.row.1 ob e.symm rfl)).trans HO1.out.blk)]; rfl); clear hr2 hb2 hg2 hat2 c0 f0) | fail)
  have hp := HP.out
  rw [List.length_append] at hp
  exact ⟨rfl, _, results_putB _ _, rfl, _, hp.1, keepsB_trans HK1.out hp.2⟩
end Go.Proofs.Ytnodnpenlplleaa.Own
