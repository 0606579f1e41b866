/- Layer 9: what a key owes, and what may be asked of it through the interface. -/
import Derived.Test.YtnodnpenlplleaaWinF
import Derived.Test.YtnodnpenlplleaaBuckM
namespace Go.Proofs.Ytnodnpenlplleaa.Own
open Go.RowKit Go.Proofs.YtnodnpenlplleaaW.PrintWords Go.Proofs.YtnodnpenlplleaaW.PrintLast Go.Proofs.YtnodnpenlplleaaW.PrintMore
set_option linter.unusedVariables false
set_option linter.unusedSimpArgs false

/-- What a key owes. -/
inductive Debt
  | lev (n : Int)
  | win (g : Int) (l : List Int)
deriving DecidableEq
def Debt.ok (p : Pol) : Debt → Prop
  | .lev n => p.kind = 1 ∧ 0 ≤ n ∧ n ≤ 4611686018427387903
  | .win g l => p.kind = 2 ∧ okW p g l
def Debt.later (p : Pol) (a b : Int) : Debt → Debt
  | .lev n => .lev (mx (n - (b - a) * p.num) 0)
  | .win g l => .win (moveX p.width p.count g l b).1 (moveX p.width p.count g l b).2
def Debt.may (p : Pol) (cost : Int) : Debt → Bool
  | .lev n => decide ((1 ≤ cost ∧ cost ≤ 1048576) ∧ n + cost * p.den ≤ p.cap * p.den)
  | .win _ l => decide ((1 ≤ cost ∧ cost ≤ 1048576) ∧ sumI l + cost ≤ p.cap)
def Debt.take (p : Pol) (cost : Int) : Debt → Debt
  | .lev n => .lev (mn (n + cost * p.den) 4611686018427387903)
  | .win g l => .win g (takeL l cost)
def Debt.nums : Debt → List Int
  | .lev n => [n]
  | .win _ l => l
def Debt.owes (d : Debt) : Bool := d.nums.any (fun n => n != 0)

/-- A list of whole numbers in rows of their own type. -/
def Nums (w : World) (v : Value) (l : List Int) : Prop := ∃ A c, v = .slice A l.length c ∧ l.length ≤ c ∧ Kd.C (Kd.int .i64) w A l.length l ∧ ∀ ad, A = some ad → ∃ cur, w.heap[ad.block]? = some (.cells cur 3 (0, 0))
theorem Nums.below {w w' : World} {v : Value} {l : List Int} (h : Nums w v l) (hb : Below w.heap.size w w') : Nums w' v l := by
  obtain ⟨A, c, e, h1, h2, h3⟩ := h
  refine ⟨A, c, e, h1, Kd.C_below h2 hb, fun ad eA => ?_⟩
  obtain ⟨cur, hcur⟩ := h3 ad eA
  exact ⟨cur, (hb.block _ (Array.getElem?_eq_some_iff.1 hcur).1).trans hcur⟩
theorem nums_of_R {w : World} {b : Nat} {ok : Nat → Prop} {v : Value} {l : List Int} (h : Kd.R (Kd.int .i64) 3 w b ok v l) : Nums w v l := by
  obtain ⟨A, c, e, hc, hC⟩ := Kd.R_reads h
  refine ⟨A, c, e, hc, hC, fun ad eA => ?_⟩
  obtain ⟨inner, ho⟩ := Kd.R_own h
  obtain ⟨cells, hcells⟩ := own_typed ho ad.block (by rw [e, eA]; rfl)
  exact ⟨cells, hcells⟩

/-- A value that holds what a key owes. -/
def DebtV (w : World) (v : Value) : Debt → Prop
  | .lev n => v = .iface 138 (.int .i64 n)
  | .win g l => ∃ s, v = .iface 142 (.agg #[.int .i64 g, s]) ∧ Nums w s l

end Go.Proofs.Ytnodnpenlplleaa.Own
/- Layer 9: the methods of what a key owes. -/
namespace Go.Proofs.Ytnodnpenlplleaa.Own
open Go.RowKit Go.Proofs.YtnodnpenlplleaaW.PrintWords Go.Proofs.YtnodnpenlplleaaW.PrintLast Go.Proofs.YtnodnpenlplleaaW.PrintMore
set_option linter.unusedVariables false
set_option linter.unusedSimpArgs false

set_option maxRecDepth 100000 in
set_option maxHeartbeats 600000 in
theorem levLater_fn (p : Pol) (n a b : Int) (w : World) (hp : p.ok) (hk : p.kind = 1) (h0 : 0 ≤ n) (h1 : n ≤ 4611686018427387903) (ha : 0 ≤ a) (hab : a ≤ b) (hb : b ≤ 1099511627776) :
    Calls Try.prog 125 #[.int .i64 n, p.val, .int .i64 a, .int .i64 b] w fun e w' => e = .returned (.iface 138 (.int .i64 (mx (n - (b - a) * p.num) 0))) ∧ Below w.heap.size w w' := by
  have HD := Aside0.mk (fun w' => decay_fn p n (b - a) w' hp hk h0 h1 (by omega) (by omega))
  obtain ⟨kind, cap, num, den, width, count, keys, slots, every, seg⟩ := p
  simp only [Pol.val, Pol.cells] at HD ⊢
  have HG := Aside0.mk (heap_alloc_new w (.cells #[.int .i64 kind, .int .i64 cap, .int .i64 num, .int .i64 den, .int .i64 width, .int .i64 count, .int .i64 keys, .int .i64 slots, .int .i64 every, .int .i64 seg] 23 (0, 0)))
  have HB := Aside0.mk (show Below w.heap.size w (w.alloc (.cells #[.int .i64 kind, .int .i64 cap, .int .i64 num, .int .i64 den, .int .i64 width, .int .i64 count, .int .i64 keys, .int .i64 slots, .int .i64 every, .int .i64 seg] 23 (0, 0))) from (Below.refl _ w).alloc (Nat.le_refl _) _)
  have x1 : IntKind.i64.wrap (b - a) = b - a := IntWalk.i64_in _ (by omega)
  clear hp hk
  go_enter Try.func125, Try.ntmps125
  go_wp2_with (first | ((with_reducible refine gload 23 rfl ?_); refine wpList_load_blk rfl 23 _ rfl w.heap.size _ 23 _ rfl HG.out _ Try.underlying23 rfl infoPol ?_) | fail)
  refine (HD.out _).mono ?_
  rintro e w1 ⟨rfl, hb1⟩
  have HB1 := Aside0.mk (HB.out.trans (hb1.mono (by simp)))
  clear hb1 HD HG HB
  go_wp2_with fail
  go_ret
  exact ⟨rfl, HB1.out⟩

set_option maxRecDepth 100000 in
set_option maxHeartbeats 600000 in
theorem levMay_fn (p : Pol) (n cost : Int) (w : World) (hp : p.ok) (hk : p.kind = 1) (h0 : 0 ≤ n) (h1 : n ≤ 4611686018427387903) :
    Calls Try.prog 126 #[.int .i64 n, p.val, .int .i64 cost] w fun e w' => e = .returned (.bool (decide ((1 ≤ cost ∧ cost ≤ 1048576) ∧ n + cost * p.den ≤ p.cap * p.den))) ∧ Below w.heap.size w w' := by
  have HD := Aside0.mk (fun w' => bmayP_fn p n cost w' hp hk h0 h1)
  obtain ⟨kind, cap, num, den, width, count, keys, slots, every, seg⟩ := p
  simp only [Pol.val, Pol.cells] at HD ⊢
  have HG := Aside0.mk (heap_alloc_new w (.cells #[.int .i64 kind, .int .i64 cap, .int .i64 num, .int .i64 den, .int .i64 width, .int .i64 count, .int .i64 keys, .int .i64 slots, .int .i64 every, .int .i64 seg] 23 (0, 0)))
  have HB := Aside0.mk (show Below w.heap.size w (w.alloc (.cells #[.int .i64 kind, .int .i64 cap, .int .i64 num, .int .i64 den, .int .i64 width, .int .i64 count, .int .i64 keys, .int .i64 slots, .int .i64 every, .int .i64 seg] 23 (0, 0))) from (Below.refl _ w).alloc (Nat.le_refl _) _)
  generalize decide ((1 ≤ cost ∧ cost ≤ 1048576) ∧ n + cost * den ≤ cap * den) = r at HD ⊢
  clear hp hk
  go_enter Try.func126, Try.ntmps126
  go_wp2_with (first | ((with_reducible refine gload 23 rfl ?_); refine wpList_load_blk rfl 23 _ rfl w.heap.size _ 23 _ rfl HG.out _ Try.underlying23 rfl infoPol ?_) | fail)
  refine (HD.out _).mono ?_
  rintro e w1 ⟨rfl, hb1⟩
  have HB1 := Aside0.mk (HB.out.trans (hb1.mono (by simp)))
  clear hb1 HD HG HB
  go_wp2_with fail
  go_ret
  exact ⟨rfl, HB1.out⟩

set_option maxRecDepth 100000 in
set_option maxHeartbeats 600000 in
theorem levTake_fn (p : Pol) (n cost : Int) (w : World) (hp : p.ok) (hk : p.kind = 1) (h0 : 0 ≤ n) (h1 : n ≤ 4611686018427387903) (c0 : 1 ≤ cost) (c1 : cost ≤ 1048576) :
    Calls Try.prog 128 #[.int .i64 n, p.val, .int .i64 cost] w fun e w' => e = .returned (.iface 138 (.int .i64 (mn (n + cost * p.den) 4611686018427387903))) ∧ Below w.heap.size w w' := by
  have HD := Aside0.mk (fun w' => take_fn p n cost w' hp hk h0 h1 c0 c1)
  obtain ⟨kind, cap, num, den, width, count, keys, slots, every, seg⟩ := p
  simp only [Pol.val, Pol.cells] at HD ⊢
  have HG := Aside0.mk (heap_alloc_new w (.cells #[.int .i64 kind, .int .i64 cap, .int .i64 num, .int .i64 den, .int .i64 width, .int .i64 count, .int .i64 keys, .int .i64 slots, .int .i64 every, .int .i64 seg] 23 (0, 0)))
  have HB := Aside0.mk (show Below w.heap.size w (w.alloc (.cells #[.int .i64 kind, .int .i64 cap, .int .i64 num, .int .i64 den, .int .i64 width, .int .i64 count, .int .i64 keys, .int .i64 slots, .int .i64 every, .int .i64 seg] 23 (0, 0))) from (Below.refl _ w).alloc (Nat.le_refl _) _)
  clear hp hk
  go_enter Try.func128, Try.ntmps128
  go_wp2_with (first | ((with_reducible refine gload 23 rfl ?_); refine wpList_load_blk rfl 23 _ rfl w.heap.size _ 23 _ rfl HG.out _ Try.underlying23 rfl infoPol ?_) | fail)
  refine (HD.out _).mono ?_
  rintro e w1 ⟨rfl, hb1⟩
  have HB1 := Aside0.mk (HB.out.trans (hb1.mono (by simp)))
  clear hb1 HD HG HB
  go_wp2_with fail
  go_ret
  exact ⟨rfl, HB1.out⟩

theorem levNums_fn (n : Int) (w : World) :
    Calls Try.prog 127 #[.int .i64 n] w fun e w' => ∃ v, e = .returned v ∧ Nums w' v [n] ∧ Below w.heap.size w w' := by
  have HO := Aside0.mk (nums_of_R (Kd.R_of_own (enc := Value.int .i64) (h1 := fun _ => rfl) (ok := fun _ => True) (own_lit_of (enc := Value.int .i64) w w.heap.size 3 [n] (Nat.le_refl _) (by simp)) (fun _ _ => trivial)))
  have HB := Aside0.mk (show Below w.heap.size w (w.alloc (.cells #[.int .i64 n] 3 (0, 0))) from (Below.refl _ w).alloc (Nat.le_refl _) _)
  go_enter Try.func127, Try.ntmps127
  go_wp2_with fail
  go_ret
  exact ⟨_, rfl, HO.out, HB.out⟩
theorem infoSumsS : (Try.prog.info? 142).map (·.size) = some 2 := by kernel_rfl

set_option maxRecDepth 100000 in
set_option maxHeartbeats 600000 in
theorem winLater_fn (p : Pol) (g a b : Int) (A : Option Addr) (c : Nat) (l : List Int) (w : World) (hp : p.ok) (hk : p.kind = 2) (hr : Kd.C (Kd.int .i64) w A l.length l) (hw : okW p g l) (h0 : 0 ≤ b) (h1 : b ≤ 1099511627776) :
    Calls Try.prog 136 #[.agg #[.int .i64 g, .slice A l.length c], p.val, .int .i64 a, .int .i64 b] w fun e w' => ∃ s, e = .returned (.iface 142 (.agg #[.int .i64 (moveX p.width p.count g l b).1, s])) ∧ Nums w' s (moveX p.width p.count g l b).2 ∧ Below w.heap.size w w' := by
  have HD := Aside0.mk (fun w' hr' => MoveW_fn p g b A c l w' hp hk hr' hw h0 h1)
  obtain ⟨kind, cap, num, den, width, count, keys, slots, every, seg⟩ := p
  simp only [Pol.val, Pol.cells] at HD ⊢
  have HS := Aside0.mk (((HeldB.one (w0 := w) (x := (w.heap.size, .cells #[.int .i64 g, .slice A l.length c] 142 (0, 0))) (heap_alloc_new w _) ((Below.refl _ w).alloc (Nat.le_refl _) _)).step ((Below.refl _ _).alloc (Nat.le_refl _) _)).more (x := (w.heap.size + 1, .cells #[.int .i64 kind, .int .i64 cap, .int .i64 num, .int .i64 den, .int .i64 width, .int .i64 count, .int .i64 keys, .int .i64 slots, .int .i64 every, .int .i64 seg] 23 (0, 0))) (by have := heap_alloc_new (w.alloc (.cells #[.int .i64 g, .slice A l.length c] 142 (0, 0))) (.cells #[.int .i64 kind, .int .i64 cap, .int .i64 num, .int .i64 den, .int .i64 width, .int .i64 count, .int .i64 keys, .int .i64 slots, .int .i64 every, .int .i64 seg] 23 (0, 0)); simpa using this))
  have HC := Aside0.mk hr
  clear hp hk hr hw
  go_enter Try.func136, Try.ntmps136
  go_wp2_with (first | ((with_reducible refine gload 23 rfl ?_); refine wpList_load_blk rfl 23 _ rfl (w.heap.size + 1) _ 23 _ rfl (HS.out.1 (w.heap.size + 1, .cells #[.int .i64 kind, .int .i64 cap, .int .i64 num, .int .i64 den, .int .i64 width, .int .i64 count, .int .i64 keys, .int .i64 slots, .int .i64 every, .int .i64 seg] 23 (0, 0)) (by simp)) _ Try.underlying23 rfl infoPol ?_) | ((with_reducible refine gload 106 rfl ?_); refine wpList_load_blk rfl 106 _ rfl w.heap.size _ 142 _ rfl (HS.out.1 (w.heap.size, .cells #[.int .i64 g, .slice A l.length c] 142 (0, 0)) (by simp)) _ Try.underlying106 rfl infoSums ?_) | fail)
  refine (HD.out _ (Kd.C_below HC.out HS.out.2)).mono ?_
  rintro e w1 ⟨v, rfl, hR1, hb1⟩
  have HB1 := Aside0.mk (HS.out.2.trans (hb1.mono HS.out.2.size))
  obtain ⟨A1, c1, ev⟩ := Kd.R_slice hR1
  subst ev
  have HN := Aside0.mk (nums_of_R hR1)
  clear hb1 HD HS hR1
  go_wp2_with fail
  go_ret
  exact ⟨_, rfl, HN.out, HB1.out⟩

set_option maxRecDepth 100000 in
set_option maxHeartbeats 600000 in
theorem winTake_fn (p : Pol) (g cost : Int) (A : Option Addr) (c : Nat) (l : List Int) (w : World) (hp : p.ok) (hk : p.kind = 2) (hr : Kd.C (Kd.int .i64) w A l.length l) (hw : okW p g l) (h0 : 1 ≤ cost) (h1 : cost ≤ 1048576) :
    Calls Try.prog 139 #[.agg #[.int .i64 g, .slice A l.length c], p.val, .int .i64 cost] w fun e w' => ∃ s, e = .returned (.iface 142 (.agg #[.int .i64 g, s])) ∧ Nums w' s (takeL l cost) ∧ Below w.heap.size w w' := by
  have HD := Aside0.mk (fun w' hr' => TakeW_fn p g cost A c l w' hp hk hr' hw h0 h1)
  obtain ⟨kind, cap, num, den, width, count, keys, slots, every, seg⟩ := p
  simp only [Pol.val, Pol.cells] at HD ⊢
  have HS := Aside0.mk (((HeldB.one (w0 := w) (x := (w.heap.size, .cells #[.int .i64 g, .slice A l.length c] 142 (0, 0))) (heap_alloc_new w _) ((Below.refl _ w).alloc (Nat.le_refl _) _)).step ((Below.refl _ _).alloc (Nat.le_refl _) _)).more (x := (w.heap.size + 1, .cells #[.int .i64 kind, .int .i64 cap, .int .i64 num, .int .i64 den, .int .i64 width, .int .i64 count, .int .i64 keys, .int .i64 slots, .int .i64 every, .int .i64 seg] 23 (0, 0))) (by have := heap_alloc_new (w.alloc (.cells #[.int .i64 g, .slice A l.length c] 142 (0, 0))) (.cells #[.int .i64 kind, .int .i64 cap, .int .i64 num, .int .i64 den, .int .i64 width, .int .i64 count, .int .i64 keys, .int .i64 slots, .int .i64 every, .int .i64 seg] 23 (0, 0)); simpa using this))
  have HC := Aside0.mk hr
  clear hp hk hr hw
  go_enter Try.func139, Try.ntmps139
  go_wp2_with (first | ((with_reducible refine gload 23 rfl ?_); refine wpList_load_blk rfl 23 _ rfl (w.heap.size + 1) _ 23 _ rfl (HS.out.1 (w.heap.size + 1, .cells #[.int .i64 kind, .int .i64 cap, .int .i64 num, .int .i64 den, .int .i64 width, .int .i64 count, .int .i64 keys, .int .i64 slots, .int .i64 every, .int .i64 seg] 23 (0, 0)) (by simp)) _ Try.underlying23 rfl infoPol ?_) | ((with_reducible refine gload 106 rfl ?_); refine wpList_load_blk rfl 106 _ rfl w.heap.size _ 142 _ rfl (HS.out.1 (w.heap.size, .cells #[.int .i64 g, .slice A l.length c] 142 (0, 0)) (by simp)) _ Try.underlying106 rfl infoSums ?_) | fail)
  refine (HD.out _ (Kd.C_below HC.out HS.out.2)).mono ?_
  rintro e w1 ⟨v, rfl, hR1, hb1⟩
  have HB1 := Aside0.mk (HS.out.2.trans (hb1.mono HS.out.2.size))
  obtain ⟨A1, c1, ev⟩ := Kd.R_slice hR1
  subst ev
  have HN := Aside0.mk (nums_of_R hR1)
  clear hb1 HD HS hR1
  go_wp2_with fail
  go_ret
  exact ⟨_, rfl, HN.out, HB1.out⟩

set_option maxRecDepth 100000 in
set_option maxHeartbeats 600000 in
theorem winMay_fn (p : Pol) (g cost : Int) (A : Option Addr) (c : Nat) (l : List Int) (w : World) (hp : p.ok) (hk : p.kind = 2) (hr : Kd.C (Kd.int .i64) w A l.length l) (hw : okW p g l) :
    Calls Try.prog 137 #[.agg #[.int .i64 g, .slice A l.length c], p.val, .int .i64 cost] w fun e w' => e = .returned (.bool (decide ((1 ≤ cost ∧ cost ≤ 1048576) ∧ sumI l + cost ≤ p.cap))) ∧ Below w.heap.size w w' := by
  have HD := Aside0.mk (fun w' hr' => MayW_fn p g cost A c l w' hp hk hr' hw)
  obtain ⟨kind, cap, num, den, width, count, keys, slots, every, seg⟩ := p
  simp only [Pol.val, Pol.cells] at HD ⊢
  have HS := Aside0.mk (((HeldB.one (w0 := w) (x := (w.heap.size, .cells #[.int .i64 g, .slice A l.length c] 142 (0, 0))) (heap_alloc_new w _) ((Below.refl _ w).alloc (Nat.le_refl _) _)).step ((Below.refl _ _).alloc (Nat.le_refl _) _)).more (x := (w.heap.size + 1, .cells #[.int .i64 kind, .int .i64 cap, .int .i64 num, .int .i64 den, .int .i64 width, .int .i64 count, .int .i64 keys, .int .i64 slots, .int .i64 every, .int .i64 seg] 23 (0, 0))) (by have := heap_alloc_new (w.alloc (.cells #[.int .i64 g, .slice A l.length c] 142 (0, 0))) (.cells #[.int .i64 kind, .int .i64 cap, .int .i64 num, .int .i64 den, .int .i64 width, .int .i64 count, .int .i64 keys, .int .i64 slots, .int .i64 every, .int .i64 seg] 23 (0, 0)); simpa using this))
  have HC := Aside0.mk hr
  generalize decide ((1 ≤ cost ∧ cost ≤ 1048576) ∧ sumI l + cost ≤ cap) = r at HD ⊢
  clear hp hk hr hw
  go_enter Try.func137, Try.ntmps137
  go_wp2_with (first | ((with_reducible refine gload 23 rfl ?_); refine wpList_load_blk rfl 23 _ rfl (w.heap.size + 1) _ 23 _ rfl (HS.out.1 (w.heap.size + 1, .cells #[.int .i64 kind, .int .i64 cap, .int .i64 num, .int .i64 den, .int .i64 width, .int .i64 count, .int .i64 keys, .int .i64 slots, .int .i64 every, .int .i64 seg] 23 (0, 0)) (by simp)) _ Try.underlying23 rfl infoPol ?_) | ((with_reducible refine gload 106 rfl ?_); refine wpList_load_blk rfl 106 _ rfl w.heap.size _ 142 _ rfl (HS.out.1 (w.heap.size, .cells #[.int .i64 g, .slice A l.length c] 142 (0, 0)) (by simp)) _ Try.underlying106 rfl infoSums ?_) | fail)
  refine (HD.out _ (Kd.C_below HC.out HS.out.2)).mono ?_
  rintro e w1 ⟨rfl, hb1⟩
  have HB1 := Aside0.mk (HS.out.2.trans (hb1.mono HS.out.2.size))
  clear hb1 HD HS
  go_wp2_with fail
  go_ret
  exact ⟨rfl, HB1.out⟩

theorem winNums_fn (g : Int) (s : Value) (w : World) :
    Calls Try.prog 138 #[.agg #[.int .i64 g, s]] w fun e w' => e = .returned s ∧ Below w.heap.size w w' := by
  have HG := Aside0.mk (heap_alloc_new w (.cells #[.int .i64 g, s] 142 (0, 0)))
  have HB := Aside0.mk (show Below w.heap.size w (w.alloc (.cells #[.int .i64 g, s] 142 (0, 0))) from (Below.refl _ w).alloc (Nat.le_refl _) _)
  go_enter Try.func138, Try.ntmps138
  go_wp2_with fail
  go_ret
  exact ⟨rfl, HB.out⟩
end Go.Proofs.Ytnodnpenlplleaa.Own
