/- Layer 1: a number's bytes. -/
import Derived.Test.YtnodnpenlplleaaSt
import Derived.Laws.MakeOwn
namespace Go.Proofs.Ytnodnpenlplleaa.Own
open Go.RowKit Go.Proofs.YtnodnpenlplleaaW.PrintWords Go.Proofs.YtnodnpenlplleaaW.PrintLast Go.Proofs.YtnodnpenlplleaaW.PrintMore
set_option linter.unusedVariables false
set_option linter.unusedSimpArgs false

/-- A number's bytes. -/
def numN (n : Nat) : List Int := if n < 128 then [(n : Int)] else ((n % 128 + 128 : Nat) : Int) :: numN (n / 128)
termination_by n
decreasing_by omega
def numB (n : Int) : List Int := numN n.toNat
theorem numN_small {n : Nat} (h : n < 128) : numN n = [(n : Int)] := by rw [numN, if_pos h]
theorem numN_big {n : Nat} (h : ¬ n < 128) : numN n = ((n % 128 + 128 : Nat) : Int) :: numN (n / 128) := by rw [numN, if_neg h]
theorem numN_length : ∀ (k n : Nat), n < 128 ^ (k + 1) → (numN n).length ≤ k + 1
  | 0, n, h => by rw [numN_small (by simpa using h)]; simp
  | k + 1, n, h => by
    by_cases hn : n < 128
    · rw [numN_small hn]; simp
    · rw [numN_big hn, List.length_cons]
      have h2 : n / 128 < 128 ^ (k + 1) := by
        rw [Nat.div_lt_iff_lt_mul (by decide)]
        rwa [Nat.pow_succ] at h
      have := numN_length k (n / 128) h2
      omega
theorem numN_pos (n : Nat) : 1 ≤ (numN n).length := by
  by_cases hn : n < 128
  · rw [numN_small hn]; simp
  · rw [numN_big hn]; simp
theorem numB_length {n : Int} (h : n ≤ 4611686018427387903) : (numB n).length ≤ 9 := numN_length 8 n.toNat (by
  have : (128 : Nat) ^ 9 = 9223372036854775808 := by decide
  rw [show 8 + 1 = 9 from rfl, this]
  omega)
/-- No number's bytes begin another's. -/
theorem numN_inj : ∀ (k a b : Nat), a ≤ k → ∀ (x y : List Int), numN a ++ x = numN b ++ y → a = b ∧ x = y
  | k, a, b, hk, x, y, h => by
    by_cases ha : a < 128
    · rw [numN_small ha] at h
      by_cases hb : b < 128
      · rw [numN_small hb] at h
        simp only [List.cons_append, List.nil_append, List.cons.injEq] at h
        exact ⟨by omega, h.2⟩
      · rw [numN_big hb] at h
        simp only [List.cons_append, List.nil_append, List.cons.injEq] at h
        omega
    · rw [numN_big ha] at h
      by_cases hb : b < 128
      · rw [numN_small hb] at h
        simp only [List.cons_append, List.nil_append, List.cons.injEq] at h
        omega
      · rw [numN_big hb] at h
        simp only [List.cons_append, List.cons.injEq] at h
        match k, hk with
        | 0, hk => omega
        | k + 1, hk =>
          obtain ⟨e1, e2⟩ := numN_inj k (a / 128) (b / 128) (by omega) x y h.2
          exact ⟨by omega, e2⟩
theorem numB_inj {a b : Int} (ha : 0 ≤ a) (hb : 0 ≤ b) {x y : List Int} (h : numB a ++ x = numB b ++ y) : a = b ∧ x = y := by
  obtain ⟨e1, e2⟩ := numN_inj a.toNat a.toNat b.toNat (Nat.le_refl _) x y h
  exact ⟨by omega, e2⟩

theorem infoByte : (Try.prog.info? 5).map (fun i => (i.zero, i.size, i.bytes)) = some (some (.int .u8 0), 1, 1) := by kernel_rfl
theorem mayN_fn (n : Int) (w : World) : Calls Try.prog 62 #[.int .i64 n] w fun e w' => e = .returned (.bool (decide (0 ≤ n ∧ n ≤ 4611686018427387903))) ∧ w' = w := by
  generalize hr : decide (0 ≤ n ∧ n ≤ 4611686018427387903) = r
  have HR := Aside0.mk hr
  clear hr
  go_enter Try.func62, Try.ntmps62
  by_cases h1 : 0 ≤ n
  · have HE := Aside0.mk (show decide (n ≤ 4611686018427387903) = r from by rw [← HR.out, decide_eq_decide]; omega)
    go_wp2_with fail
    go_ret
    exact ⟨congrArg (fun b => Ending.returned (Value.bool b)) HE.out, rfl⟩
  · have HE := Aside0.mk (show false = r from by rw [← HR.out, decide_eq_false (by omega)])
    go_wp2_with fail
    go_ret
    exact ⟨congrArg (fun b => Ending.returned (Value.bool b)) HE.out, rfl⟩

theorem or128 (m : Nat) : bits BinOp.or IntKind.u8 ((m : Int) % 128) 128 = ((m % 128 + 128 : Nat) : Int) := by
  have h : ∀ x : Nat, x < 128 → bits BinOp.or IntKind.u8 (x : Int) 128 = ((x + 128 : Nat) : Int) := by decide +kernel
  have e : (m : Int) % 128 = ((m % 128 : Nat) : Int) := by omega
  rw [e]
  exact h _ (Nat.mod_lt _ (by decide))
theorem made_nine : ∃ C : Array Value, ∀ W : World, (Instr.makeSlice 31 (.int .i64 0) (.int .i64 9)).run Try.prog W = .ok (.slice (some ⟨W.heap.size, 0, none⟩) 0 9) (W.alloc (.cells C 5)) ∧ Kd.R (Kd.int .u8) 5 (W.alloc (.cells C 5)) W.heap.size (fun _ => True) (.slice (some ⟨W.heap.size, 0, none⟩) 0 9) ([] : List Int) := by
  obtain ⟨i, hi, hz⟩ := Option.map_eq_some_iff.1 infoByte
  simp only [Prod.mk.injEq] at hz
  obtain ⟨hz0, hz1, hz2⟩ := hz
  refine ⟨madeCells (Value.int .u8 0).cells (9 * i.size), fun W => ⟨?_, ?_⟩⟩
  · have h := run_make (P := Try.prog) W 31 5 i (.int .u8 0) Try.underlying31 hi hz0 .i64 .i64 0 9 (by decide) (by decide) (by rw [hz2]; decide) (by decide)
    simpa using h
  · exact Kd.R_of_own (enc := Value.int .u8) (h1 := fun _ => rfl) (by rw [hz1]; exact World.ownsRow_made W _ 9 (Nat.le_refl _) (by decide) (size_madeCells _ _)) (fun _ _ => trivial)

set_option maxRecDepth 100000 in
set_option maxHeartbeats 1000000 in
theorem Number_fn (n : Int) (w : World) (h0 : 0 ≤ n) (h1 : n ≤ 4611686018427387903) :
    Calls Try.prog 40 #[.int .i64 n] w fun e w' => ∃ v, e = .returned (.tuple #[v, .int .i64 0]) ∧ Kd.R (Kd.int .u8) 5 w' w.heap.size (fun _ => True) v (numB n) ∧ Below w.heap.size w w' := by
  obtain ⟨C, hC⟩ := made_nine
  have hmk := fun W => (hC W).1
  have HR0 := Aside0.mk (fun W => (hC W).2)
  have HL := Aside0.mk (numB_length h1)
  clear hC
  go_enter Try.func40, Try.ntmps40
  go_wp2_with fail
  refine (mayN_fn n _).mono ?_
  rintro e w1 ⟨rfl, hw⟩
  rw [hw, decide_eq_true ⟨h0, h1⟩]
  clear hw w1
  go_wp2_with fail
  clear hmk
  have HB0 := Aside0.mk (show Below w.heap.size w (w.alloc (.cells C 5 (0, 0))) from (Below.refl _ w).alloc (Nat.le_refl _) _)
  go_loopw [0, 4] (fun n' out wr => ∃ (m : Nat) (xs : List Int), n' = .int .i64 (m : Int) ∧ Aside0 (xs ++ numN m = numB n ∧ m ≤ 4611686018427387903 ∧ Kd.R (Kd.int .u8) 5 wr w.heap.size (fun _ => True) out xs ∧ Below w.heap.size w wr)) (fun n' _ _ => (intOf n').toNat)
  case atStart =>
    refine ⟨n.toNat, [], by rw [Int.toNat_of_nonneg h0], ⟨rfl, by omega, HR0.out w, HB0.out⟩⟩
  case round =>
    obtain ⟨m, xs, rfl, BS⟩ := hrel
    have hxl : xs.length ≤ 9 := by
      have h := congrArg List.length BS.out.1
      rw [List.length_append] at h
      have := HL.out
      omega
    have hm := BS.out.2.1
    by_cases hg : m < 128
    · have hg' : ¬ (128 : Int) ≤ (m : Int) := by omega
      go_wp2_with (first | ((with_reducible refine gate_builtin (b := .append) (xs := #[.tmp 20, .tmp 23]) rfl ?_); at_builtin; refine Kd.R_append (Kd.int .u8) (w0 := w) w.heap.size rfl (.tmp 20) (.tmp 23) 31 5 (.int .u8 0) 1 rfl Try.underlying31 infoByte rfl (by decide) (by decide) u4 xs (m : Int) [.int .u8 (m : Int)] (fun _ => True) (fun _ => False) rfl rfl rfl (fun _ hk => hk.elim) (fun _ _ => trivial) BS.out.2.2.1 BS.out.2.2.2 BS.out.2.2.2.size (by omega) ?_; intro v1 w4 ho hb hg1 hat; have HN := Aside0.mk (And.intro ho hb); clear ho hb hg1 hat) | fail)
      refine ⟨rfl, _, results_tmp2 rfl _ _ _, v1, rfl, ?_, HN.out.2⟩
      have h := BS.out.1
      rw [numN_small hg] at h
      rw [← h]
      exact HN.out.1
    · have hg' : (128 : Int) ≤ (m : Int) := by omega
      have HV := Aside0.mk (or128 m)
      have HX := Aside0.mk (numN_big hg)
      clear hg
      go_wp2_with (first | ((with_reducible refine gate_builtin (b := .append) (xs := #[.tmp 13, .tmp 18]) rfl ?_); at_builtin; refine Kd.R_append (Kd.int .u8) (w0 := w) w.heap.size rfl (.tmp 13) (.tmp 18) 31 5 (.int .u8 0) 1 rfl Try.underlying31 infoByte rfl (by decide) (by decide) u4 xs (bits BinOp.or IntKind.u8 ((m : Int) % 128) 128) [.int .u8 (bits BinOp.or IntKind.u8 ((m : Int) % 128) 128)] (fun _ => True) (fun _ => False) rfl rfl rfl (fun _ hk => hk.elim) (fun _ _ => trivial) BS.out.2.2.1 BS.out.2.2.2 BS.out.2.2.2.size (by omega) ?_; intro v1 w4 ho hb hg1 hat; have HN := Aside0.mk (And.intro ho hb); clear ho hb hg1 hat) | fail)
      go_roundw
      case rel =>
        refine ⟨m / 128, xs ++ [((m % 128 + 128 : Nat) : Int)], ?_, ?_, ?_, ?_, ?_⟩
        · go_num
        · have h := BS.out.1
          rw [HX.out] at h
          rw [List.append_assoc]
          exact h
        · omega
        · rw [← HV.out]; exact HN.out.1
        · exact HN.out.2
      case measure => simp [intOf]; omega
end Go.Proofs.Ytnodnpenlplleaa.Own
