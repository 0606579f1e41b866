/- Layer 9: a ledger's bytes. -/
import Derived.Test.YtnodnpenlplleaaBytA
namespace Go.Proofs.Ytnodnpenlplleaa.Own
open Go.RowKit Go.Proofs.YtnodnpenlplleaaW.PrintWords Go.Proofs.YtnodnpenlplleaaW.PrintLast Go.Proofs.YtnodnpenlplleaaW.PrintMore
open Go.Maps (Keyed)
set_option linter.unusedVariables false
set_option linter.unusedSimpArgs false

def numsB (l : List Int) : List Int := l.flatMap numB
def rowB (r : ByteArray × Debt) : List Int := numB r.1.size ++ bytesOf r.1 ++ numsB r.2.nums
def rowsB (rows : Rws) : List Int := rows.flatMap rowB
/-- What all owe, as bytes. -/
def bytesR (rows : Rws) : List Int := numB rows.length ++ rowsB rows
theorem nums_ok {p : Pol} {d : Debt} (hp : p.ok) (h : d.ok p) : ∀ n ∈ d.nums, 0 ≤ n ∧ n ≤ 4611686018427387903 := by
  cases d with
  | lev n =>
    intro m hm
    simp only [Debt.nums, List.mem_singleton] at hm
    subst hm
    exact h.2
  | win g l =>
    intro m hm
    have := h.2.2.2.2 m hm
    omega
theorem numsB_length : ∀ (l : List Int), (∀ n ∈ l, 0 ≤ n ∧ n ≤ 4611686018427387903) → (numsB l).length ≤ 9 * l.length
  | [], _ => by simp [numsB]
  | n :: l, h => by
    have h1 := numB_length (h n (by simp)).2
    have h2 := numsB_length l (fun m hm => h m (by simp [hm]))
    unfold numsB at h2 ⊢
    rw [List.flatMap_cons, List.length_append, List.length_cons]
    omega
theorem rowB_length {p : Pol} {tick : Int} {rows : Rws} (ho : OkR p tick rows) {r : ByteArray × Debt} (hr : r ∈ rows) : (rowB r).length ≤ 361 := by
  have h1 := ho.keys r hr
  have h2 := (ho.debts r hr).1
  have h3 := numsB_length _ (nums_ok ho.pol h2)
  have h4 := nums_len ho.pol h2
  have h5 := numB_length (n := (r.1.size : Int)) (by omega)
  have h6 := bytesOf_length r.1
  unfold rowB
  rw [List.length_append, List.length_append]
  omega
theorem rowsB_length {p : Pol} {tick : Int} {rows : Rws} (ho : OkR p tick rows) : ∀ (l : Rws), (∀ r ∈ l, r ∈ rows) → (rowsB l).length ≤ 361 * l.length
  | [], _ => by simp [rowsB]
  | r :: l, h => by
    have h1 := rowB_length ho (h r (by simp))
    have h2 := rowsB_length ho l (fun x hx => h x (by simp [hx]))
    unfold rowsB at h2 ⊢
    rw [List.flatMap_cons, List.length_append, List.length_cons]
    omega
theorem Led.lenMap {w : World} {sb mb : Nat} {p : Pol} {tick : Int} {rows : Rws} (h : Led w sb mb p tick rows) (hs : sortedR rows) (ty : TypeId) : (Builtin.len_ #[78] ty #[.map (some mb)]).run Try.prog w = .ok (.int .i64 (rows.length : Int)) w := by
  obtain ⟨D, hown, hD, hsz⟩ := h.size hs
  have := hown.len Try.underlying78 ty
  rw [hsz] at this
  exact this

theorem cellB {A B : World} (h : Keeps (isB A) A B) {ad : Addr} {cur : Array Value} {t : TypeId} {fr : Nat × Nat} (hk : A.heap[ad.block]? = some (.cells cur t fr)) (h1 : t ≠ 5) (h2 : t ≠ 31) (j : Nat) : B.cell? (ad.add j) = A.cell? (ad.add j) :=
  World.cell?_of_block (by
    have e : (ad.add j).block = ad.block := add_block ad j
    rw [e]
    exact keepsB_typed h hk h1 h2)
theorem own_slice {w : World} {base n : Nat} {e : TypeId} {size : Nat} {v : Value} {xs : List Value} (h : w.ownsRow base e size v n xs) : ∃ A c, v = .slice A n c := by
  rcases h.2 with ⟨rfl, h0⟩ | ⟨g, cap, cur, rfl, _⟩
  · exact ⟨none, 0, by rw [h0]⟩
  · exact ⟨_, _, rfl⟩
theorem Out.blk1 {w0 w w1 : World} {ob : Nat} {v : Value} {xs : List Int} (h : Out w0 w ob v xs) (hg : w.grownBy w1 v.ownBlock) : w1.heap[ob]? = some (.cells #[v] 31 (0, 0)) :=
  (hg.block ob (Array.getElem?_eq_some_iff.1 h.blk).1 (fun e => h.row.1 ob e.symm rfl)).trans h.blk
theorem Out.frozen1 {w0 w w1 : World} {ob : Nat} {v : Value} {xs : List Int} (h : Out w0 w ob v xs) (hg : w.grownBy w1 v.ownBlock) : w1.frozen? ⟨ob, 0, none⟩ = false := blk_frozen (h.blk1 hg) 0
theorem Out.cell1 {w0 w w1 : World} {ob : Nat} {v : Value} {xs : List Int} (h : Out w0 w ob v xs) (hg : w.grownBy w1 v.ownBlock) : w1.cell? ⟨ob, 0, none⟩ = some v := by rw [cell_of_row _ _ 0 _ _ _ (h.blk1 hg)]; rfl
/-- A string was written behind. -/
theorem Out.putStr {w0 w w1 : World} {ob : Nat} {v v1 : Value} {xs ys : List Int} (h : Out w0 w ob v xs) (hr : w1.ownsRow w0.heap.size 5 1 v1 ys.length (Go.Proofs.YtnodnpenlplleaaW.PrintWords.nums .u8 ys)) (hb : Below w0.heap.size w0 w1) (hg : w.grownBy w1 v.ownBlock) :
    Out w0 (w1.setCell ⟨ob, 0, none⟩ v1) ob v1 ys ∧ Keeps (isB w) w (w1.setCell ⟨ob, 0, none⟩ v1) :=
  h.put (Kd.R_of_own (enc := Value.int .u8) (h1 := fun _ => rfl) hr (fun k hk e => by
    obtain ⟨cells, hcells⟩ := own_typed hr k hk
    rw [e, h.blk1 hg] at hcells
    injection hcells with hcells
    injection hcells with _ hcells
    exact absurd hcells (by decide))) hb hg

set_option maxRecDepth 100000 in
set_option maxHeartbeats 4000000 in
theorem Bytes_fn (w : World) (sb mb : Nat) (p : Pol) (tick : Int) (rows : Rws) (h : Led w sb mb p tick rows) (ho : OkR p tick rows) (hlen : rows.length ≤ 100000) :
    Calls Try.prog 16 #[.pointer (some ⟨sb, 0, none⟩)] w fun e w' => ∃ v, e = .returned v ∧ Kd.R (Kd.int .u8) 5 w' w.heap.size (fun _ => True) v (bytesR rows) ∧ Below w.heap.size w w' := by
  have hb0 : Below w.heap.size w (w.alloc (.cells #[.slice none 0 0] 31 (0, 0))) := (Below.refl _ w).alloc (Nat.le_refl _) _
  have HL0 := Aside0.mk (h.below hb0)
  have HOUT0 := Aside0.mk (show Out w (w.alloc (.cells #[.slice none 0 0] 31 (0, 0))) w.heap.size (.slice none 0 0) [] from ⟨heap_alloc_new w _, Kd.R_nil _ _ _ _ _, hb0, Nat.le_refl _⟩)
  have hlm := HL0.out.lenMap ho.sorted 3
  have c11 : (w.alloc (.cells #[.slice none 0 0] 31 (0, 0))).cell? ⟨sb, 11, none⟩ = some (.map (some mb)) := by rw [cell_of_row _ _ 11 _ _ _ HL0.out.blk]; rfl
  have HOK := Aside0.mk ho
  have HLED := Aside0.mk h
  clear ho h hb0
  go_enter Try.func16, Try.ntmps16
  go_wp2_with fail
  refine (put_fn rows.length (by omega) (by omega) w _ w.heap.size _ _ HOUT0.out (by simp)).mono ?_
  rintro e w1 ⟨rfl, v1, ho1, _⟩
  have HO1 := Aside0.mk ho1
  clear ho1 HOUT0 HL0 hlm c11
  go_wp2_with fail
  refine (Keys_fn w1 sb mb p tick rows (HLED.out.below HO1.out.below) HOK.out.sorted hlen).mono ?_
  rintro e w2 ⟨vk, rfl, hRk, hb2⟩
  obtain ⟨A8, c8, e8, hc8, hC8⟩ := Kd.R_reads hRk
  have hT8 : ∀ ad, A8 = some ad → ∃ cur, w2.heap[ad.block]? = some (.cells cur 9 (0, 0)) := fun ad eA => by
    obtain ⟨inner, ho⟩ := Kd.R_own hRk
    obtain ⟨cells, hcells⟩ := own_typed ho ad.block (by rw [e8, eA]; rfl)
    exact ⟨cells, hcells⟩
  subst e8
  have ekl : (keysR rows).length = rows.length := by simp [keysR]
  rw [ekl] at hC8 ⊢
  have HC8 := Aside0.mk hC8
  have HT8 := Aside0.mk hT8
  have HO2 := Aside0.mk (HO1.out.step hb2)
  clear hRk hb2 hC8 hT8 HO1 hc8
  go_wp2_with fail
  go_loopw [20] (fun i wr => ∃ j : Nat, j ≤ rows.length ∧ i = .int .i64 (j : Int) ∧ ∃ v, Aside0 (Out w wr w.heap.size v (numB rows.length ++ rowsB (rows.take j)) ∧ Keeps (isB w2) w2 wr)) (fun i _ => rows.length - (intOf i).toNat)
  case atStart => exact ⟨0, by omega, rfl, v1, ⟨by simpa [rowsB] using HO2.out, Keeps.refl _ _⟩⟩
  case round =>
    obtain ⟨wo, rfl⟩ : ∃ wo, wo = wr := ⟨_, rfl⟩
    obtain ⟨j, hj, rfl, v, BS⟩ := hrel
    clear HO2
    by_cases hlt : j < rows.length
    · obtain ⟨ad8, eA8, d0⟩ := Kd.at_string HC8.out (j : Int) (by omega) (by omega)
      subst eA8
      simp only [Int.toNat_natCast] at d0
      obtain ⟨cur8, hcur8⟩ := HT8.out ad8 rfl
      replace d0 := (cellB BS.out.2 hcur8 (by decide) (by decide) _).trans d0
      have j0 : (0 : Int) ≤ (j : Int) := by omega
      have j1 : (j : Int) < (rows.length : Int) := by omega
      obtain ⟨r, hr⟩ : ∃ r, rows[j]? = some r := ⟨_, List.getElem?_eq_getElem hlt⟩
      have hmem : r ∈ rows := List.mem_of_getElem? hr
      have ek : rdOf ByteArray.empty (keysR rows) (j : Int) = r.1 := by
        unfold rdOf keysR
        rw [Int.toNat_natCast, List.getD_eq_getElem?_getD, List.getElem?_map, hr]
        rfl
      rw [ek] at d0
      have HTK := Aside0.mk (show numB rows.length ++ rowsB (rows.take (j + 1)) = (numB rows.length ++ rowsB (rows.take j) ++ numB r.1.size ++ bytesOf r.1) ++ numsB r.2.nums from by
        rw [List.take_add_one, hr]
        simp [rowsB, rowB, List.append_assoc])
      have hlk := lookR_of_mem HOK.out.sorted (show (r.1, r.2) ∈ rows from hmem)
      have HLOOK := Aside0.mk hlk
      have hksz := HOK.out.keys r hmem
      have hdok := (HOK.out.debts r hmem).1
      have HNOK := Aside0.mk (nums_ok HOK.out.pol hdok)
      have HLN := Aside0.mk (nums_len HOK.out.pol hdok)
      have hxl : (numB rows.length ++ rowsB (rows.take j)).length ≤ 9 + 361 * 100000 := by
        have h1 := numB_length (n := (rows.length : Int)) (by omega)
        have h2 := rowsB_length HOK.out (rows.take j) (fun x hx => List.mem_of_mem_take hx)
        have h3 : (rows.take j).length ≤ 100000 := by rw [List.length_take]; omega
        rw [List.length_append]
        omega
      have hnk := numB_length (n := (r.1.size : Int)) (by omega)
      have hbo := bytesOf_length r.1
      obtain ⟨key, d⟩ := r
      simp only at d0 HTK HLOOK hksz HNOK HLN hnk hbo
      generalize numB rows.length ++ rowsB (rows.take j) = xs at BS HTK hxl
      clear ek hr hmem hlk hdok hcur8
      go_wp2_with fail
      refine (put_fn key.size (by omega) (by omega) w _ w.heap.size v xs BS.out.1 (by omega)).mono ?_
      rintro e w3 ⟨rfl, v3, ho3, hk3⟩
      have HO3 := Aside0.mk ho3
      have HK3 := Aside0.mk (keepsB_trans BS.out.2 hk3)
      have c3 : w3.cell? ⟨w.heap.size, 0, none⟩ = some v3 := by rw [cell_of_row _ _ 0 _ _ _ ho3.blk]; rfl
      clear ho3 hk3 BS d0
      generalize numB key.size = nk at HO3 HTK hnk
      cases d with
      | lev n =>
        have m1 := fun k v w => (lev_numbers k v w).1
        have m2 := fun k v w => (lev_numbers k v w).2
        simp only [Debt.nums] at HTK HNOK HLN
        go_wp2_with (first | ((with_reducible refine gate_builtin (b := .append) (xs := #[.tmp 28, .tmp 29]) rfl ?_); at_builtin; refine print_append_str (w0 := w) w.heap.size rfl (.tmp 28) (.tmp 29) 31 9 5 rfl Try.underlying31 Try.underlying9 infoByte v3 (xs ++ nk) key rfl rfl (Kd.own_of_R HO3.out.row) HO3.out.below HO3.out.below.size (by rw [List.length_append]; omega) ?_; intro v4 w4 hr4 hb4 hg4; obtain ⟨A4, cc4, e4⟩ := own_slice hr4; subst e4; have hp := HO3.out.putStr hr4 hb4 hg4; rw [List.length_append, List.length_append, bytesOf_length, Nat.add_assoc] at hp; have hled4 := HLED.out.below hp.1.below; have c11 := (cell_of_row _ _ 11 _ _ _ hled4.blk).trans (show _ = some (.map (some mb)) from rfl); have c11w := (cell_of_row _ _ 11 _ _ _ (HLED.out.below hb4).blk).trans (show _ = some (.map (some mb)) from rfl); obtain ⟨V, hlook, hV⟩ := hled4.look (key := key) (by simp only [maxLen]; omega); unfold Found at hV; rw [HLOOK.out] at hV; simp only at hV; cases hV; have HO4 := Aside0.mk hp.1; have HK4 := Aside0.mk (keepsB_trans HK3.out hp.2); have f4 := HO3.out.frozen1 hg4; have c4 := HO3.out.cell1 hg4; clear hr4 hb4 hg4 c3 hp hled4) | fail)
        refine (levNums_fn n _).mono ?_
        rintro e w5 ⟨vn, rfl, ⟨An, cn, rfl, hcn, hCN, hTN⟩, hb5⟩
        generalize [n] = l at HTK HNOK HLN hCN hTN hcn ⊢
        have hyl : (xs ++ nk ++ bytesOf key).length ≤ 36200100 := by rw [List.length_append, List.length_append]; omega
        clear m1 m2 hxl hnk hbo HO3 HK3 c11 hlook f4 c4
        generalize xs ++ nk ++ bytesOf key = ys at HTK hyl HO4
        have HYS := Aside0.mk hyl
        clear hyl
        have HO5 := Aside0.mk (HO4.out.step hb5)
        have HK5 := Aside0.mk (keepsB_trans HK4.out (keepsB_below hb5))
        have HCN := Aside0.mk hCN
        have HTN := Aside0.mk hTN
        clear hb5 hCN hTN HO4 HK4
        go_wp2_with fail
        go_loopw [39] (fun i wi => ∃ k : Nat, k ≤ l.length ∧ i = .int .i64 (k : Int) ∧ ∃ v, Aside0 (Out w wi w.heap.size v (ys ++ numsB (l.take k)) ∧ Keeps (isB w5) w5 wi)) (fun i _ => l.length - (intOf i).toNat)
        case atStart => exact ⟨0, by omega, rfl, _, ⟨by simpa [numsB] using HO5.out, Keeps.refl _ _⟩⟩
        case round =>
          obtain ⟨wi, rfl⟩ : ∃ wi, wi = wr := ⟨_, rfl⟩
          obtain ⟨k, hk, rfl, vi, BI⟩ := hrel
          by_cases hkl : k < l.length
          · obtain ⟨adn, eAn, n0⟩ := Kd.at_int HCN.out (k : Int) (by omega) (by omega)
            subst eAn
            simp only [Int.toNat_natCast] at n0
            obtain ⟨curn, hcurn⟩ := HTN.out adn rfl
            replace n0 := (cellB BI.out.2 hcurn (by decide) (by decide) _).trans n0
            have k0 : (0 : Int) ≤ (k : Int) := by omega
            have k1 : (k : Int) < (l.length : Int) := by omega
            have HTKI := Aside0.mk (take_rdI l hkl)
            have hmn := HNOK.out _ (rd_memI l hkl)
            have hln := Nat.le_trans (numsB_length (l.take k) (fun m hm => HNOK.out m (List.mem_of_mem_take hm))) (Nat.mul_le_mul_left 9 (show (l.take k).length ≤ 32 from by rw [List.length_take]; have := HLN.out; omega))
            have hys := HYS.out
            have hl32 := HLN.out
            generalize rd l (k : Int) = x at n0 HTKI hmn
            go_wp2_with fail
            refine (put_fn x hmn.1 hmn.2 w _ w.heap.size vi _ BI.out.1 (by rw [List.length_append]; omega)).mono ?_
            rintro e w6 ⟨rfl, v6, ho6, hk6⟩
            have HN6 := Aside0.mk (And.intro ho6 (keepsB_trans BI.out.2 hk6))
            clear ho6 hk6 BI n0
            go_wp2_with fail
            go_roundw
            case rel => exact ⟨k + 1, by omega, by go_num, v6, ⟨by rw [HTKI.out, numsB, List.flatMap_append, ← List.append_assoc]; simpa [numsB] using HN6.out.1, HN6.out.2⟩⟩
            case measure => simp [intOf]; omega
          · obtain rfl : k = l.length := by omega
            have HE6 := Aside0.mk (show Out w wi w.heap.size vi (ys ++ numsB l) ∧ Keeps (isB w2) w2 wi from ⟨by have h := BI.out.1; rwa [List.take_length] at h, keepsB_trans HK5.out BI.out.2⟩)
            clear BI
            go_wp2_with fail
            go_roundw
            case rel => exact ⟨j + 1, by omega, by go_num, vi, ⟨by rw [HTK.out]; exact HE6.out.1, HE6.out.2⟩⟩
            case measure => simp [intOf]; omega
      | win g l =>
        have m1 := fun k v w => (win_numbers k v w).1
        have m2 := fun k v w => (win_numbers k v w).2
        simp only [Debt.nums] at HTK HNOK HLN
        go_wp2_with (first | ((with_reducible refine gate_builtin (b := .append) (xs := #[.tmp 28, .tmp 29]) rfl ?_); at_builtin; refine print_append_str (w0 := w) w.heap.size rfl (.tmp 28) (.tmp 29) 31 9 5 rfl Try.underlying31 Try.underlying9 infoByte v3 (xs ++ nk) key rfl rfl (Kd.own_of_R HO3.out.row) HO3.out.below HO3.out.below.size (by rw [List.length_append]; omega) ?_; intro v4 w4 hr4 hb4 hg4; obtain ⟨A4, cc4, e4⟩ := own_slice hr4; subst e4; have hp := HO3.out.putStr hr4 hb4 hg4; rw [List.length_append, List.length_append, bytesOf_length, Nat.add_assoc] at hp; have hled4 := HLED.out.below hp.1.below; have c11 := (cell_of_row _ _ 11 _ _ _ hled4.blk).trans (show _ = some (.map (some mb)) from rfl); have c11w := (cell_of_row _ _ 11 _ _ _ (HLED.out.below hb4).blk).trans (show _ = some (.map (some mb)) from rfl); obtain ⟨V, hlook, hV⟩ := hled4.look (key := key) (by simp only [maxLen]; omega); unfold Found at hV; rw [HLOOK.out] at hV; simp only at hV; obtain ⟨sv, rfl, An, cn, rfl, hcn, hCs, hTs⟩ := hV; have HCS := Aside0.mk hCs; have HTS := Aside0.mk hTs; clear hCs hTs; have HO4 := Aside0.mk hp.1; have HK4 := Aside0.mk (keepsB_trans HK3.out hp.2); have f4 := HO3.out.frozen1 hg4; have c4 := HO3.out.cell1 hg4; clear hr4 hb4 hg4 c3 hp hled4) | fail)
        refine (winNums_fn g _ _).mono ?_
        rintro e w5 ⟨rfl, hb5⟩
        have hCN := Kd.C_below HCS.out hb5
        have hTN : ∀ ad, An = some ad → ∃ cur, w5.heap[ad.block]? = some (.cells cur 3 (0, 0)) := fun ad eA => by
          obtain ⟨cur, hcur⟩ := HTS.out ad eA
          exact ⟨cur, (hb5.block _ (Array.getElem?_eq_some_iff.1 hcur).1).trans hcur⟩
        clear HCS HTS
        have hyl : (xs ++ nk ++ bytesOf key).length ≤ 36200100 := by rw [List.length_append, List.length_append]; omega
        clear m1 m2 hxl hnk hbo HO3 HK3 c11 hlook f4 c4
        generalize xs ++ nk ++ bytesOf key = ys at HTK hyl HO4
        have HYS := Aside0.mk hyl
        clear hyl
        have HO5 := Aside0.mk (HO4.out.step hb5)
        have HK5 := Aside0.mk (keepsB_trans HK4.out (keepsB_below hb5))
        have HCN := Aside0.mk hCN
        have HTN := Aside0.mk hTN
        clear hb5 hCN hTN HO4 HK4
        go_wp2_with fail
        go_loopw [39] (fun i wi => ∃ k : Nat, k ≤ l.length ∧ i = .int .i64 (k : Int) ∧ ∃ v, Aside0 (Out w wi w.heap.size v (ys ++ numsB (l.take k)) ∧ Keeps (isB w5) w5 wi)) (fun i _ => l.length - (intOf i).toNat)
        case atStart => exact ⟨0, by omega, rfl, _, ⟨by simpa [numsB] using HO5.out, Keeps.refl _ _⟩⟩
        case round =>
          obtain ⟨wi, rfl⟩ : ∃ wi, wi = wr := ⟨_, rfl⟩
          obtain ⟨k, hk, rfl, vi, BI⟩ := hrel
          by_cases hkl : k < l.length
          · obtain ⟨adn, eAn, n0⟩ := Kd.at_int HCN.out (k : Int) (by omega) (by omega)
            subst eAn
            simp only [Int.toNat_natCast] at n0
            obtain ⟨curn, hcurn⟩ := HTN.out adn rfl
            replace n0 := (cellB BI.out.2 hcurn (by decide) (by decide) _).trans n0
            have k0 : (0 : Int) ≤ (k : Int) := by omega
            have k1 : (k : Int) < (l.length : Int) := by omega
            have HTKI := Aside0.mk (take_rdI l hkl)
            have hmn := HNOK.out _ (rd_memI l hkl)
            have hln := Nat.le_trans (numsB_length (l.take k) (fun m hm => HNOK.out m (List.mem_of_mem_take hm))) (Nat.mul_le_mul_left 9 (show (l.take k).length ≤ 32 from by rw [List.length_take]; have := HLN.out; omega))
            have hys := HYS.out
            have hl32 := HLN.out
            generalize rd l (k : Int) = x at n0 HTKI hmn
            go_wp2_with fail
            refine (put_fn x hmn.1 hmn.2 w _ w.heap.size vi _ BI.out.1 (by rw [List.length_append]; omega)).mono ?_
            rintro e w6 ⟨rfl, v6, ho6, hk6⟩
            have HN6 := Aside0.mk (And.intro ho6 (keepsB_trans BI.out.2 hk6))
            clear ho6 hk6 BI n0
            go_wp2_with fail
            go_roundw
            case rel => exact ⟨k + 1, by omega, by go_num, v6, ⟨by rw [HTKI.out, numsB, List.flatMap_append, ← List.append_assoc]; simpa [numsB] using HN6.out.1, HN6.out.2⟩⟩
            case measure => simp [intOf]; omega
          · obtain rfl : k = l.length := by omega
            have HE6 := Aside0.mk (show Out w wi w.heap.size vi (ys ++ numsB l) ∧ Keeps (isB w2) w2 wi from ⟨by have h := BI.out.1; rwa [List.take_length] at h, keepsB_trans HK5.out BI.out.2⟩)
            clear BI
            go_wp2_with fail
            go_roundw
            case rel => exact ⟨j + 1, by omega, by go_num, vi, ⟨by rw [HTK.out]; exact HE6.out.1, HE6.out.2⟩⟩
            case measure => simp [intOf]; omega
    · obtain rfl : j = rows.length := by omega
      have c0 : wo.cell? ⟨w.heap.size, 0, none⟩ = some v := by rw [cell_of_row _ _ 0 _ _ _ BS.out.1.blk]; rfl
      go_wp2_with fail
      go_ret
      refine ⟨v, rfl, ?_, BS.out.1.below⟩
      have h := BS.out.1.row
      rw [List.take_length] at h
      exact Kd.R_mono h (fun _ _ => trivial)
end Go.Proofs.Ytnodnpenlplleaa.Own
