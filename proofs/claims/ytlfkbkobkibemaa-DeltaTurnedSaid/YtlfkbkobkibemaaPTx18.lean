-- Written by wip/xprint.py, a driver of this session's own over the kit's printer; Lean checks it.
import Derived.Test.YtlfkbkobkibemaaPTx0
import Derived.Test.YtlfkbkobkibemaaPTx12
import Derived.Test.YtlfkbkobkibemaaPTx17
import Derived.Laws.BitsLemmas
import Derived.WalkMore
import Derived.OneCell
import Derived.Lib.SlBytesConst
namespace Go.Proofs.Ytlfkbkobkibemaa.PT
open Go.Proofs.YtlfkbkobkibemaaM Go.RowKit Go.Proofs.YtlfkbkobkibemaaW.PrintWords Go.Proofs.YtlfkbkobkibemaaW.PrintLast Go.Proofs.YtlfkbkobkibemaaW.PrintMore
attribute [local go_sem] max2_int min2_int max_two min_two max_three min_three max_four min_four   -- for this text's walks alone
set_option linter.unusedVariables false
set_option linter.unusedSimpArgs false

/-! ### delta_Bytes: function 20 (by hand) -/
-- IMPORT Derived.Laws.BitsLemmas
-- IMPORT Derived.WalkMore
-- IMPORT Derived.OneCell
-- IMPORT Derived.Lib.SlBytesConst
def db_be4 (n : Int) : List Int := [n / 16777216 % 256, n / 65536 % 256, n / 256 % 256, n % 256]
set_option maxHeartbeats 8000000 in
set_option maxRecDepth 100000 in
/-- What the closure does: four bytes more in the row that the block holds. -/
theorem delta_Bytes.put (w0 w : World) (g : Nat) (n : Int) (v : Value) (xs : List Int) (hg : w0.heap.size ≤ g) (hc : w.heap[g]? = some (.cells #[v] 22 (0, 0))) (ho : Kd.R (Kd.int .u8) 5 w w0.heap.size (fun _ => True) v xs) (hB : Below w0.heap.size w0 w) (hl : xs.length + 4 < 140737488355328) :
    Calls Try.prog 31 #[.int .i64 n, .pointer (some ⟨g, 0, none⟩)] w fun e w' => e = .returned (.tuple #[]) ∧ ∃ v' : Value, w'.heap[g]? = some (.cells #[v'] 22 (0, 0)) ∧ Kd.R (Kd.int .u8) 5 w' w0.heap.size (fun _ => True) v' (xs ++ db_be4 n) ∧ Below w0.heap.size w0 w' ∧ KeepBut w w' g v.ownBlock ∧ (v'.ownBlock = v.ownBlock ∨ ∃ b, v'.ownBlock = some b ∧ w.heap.size ≤ b) := by
  have hcell := blk_cell hc 0
  replace hcell : w.cell? ⟨g, 0, none⟩ = some v := hcell
  have HG := Aside0.mk hg
  have HO := Aside0.mk ho
  have HC := Aside0.mk hc
  have HB := Aside0.mk hB
  have HL := Aside0.mk hl
  clear hc ho hB hg hl
  have HL4 := Aside0.mk (show Kd.C (Kd.int .u8) (w.alloc (.cells #[.int .u8 (n / 16777216 % 256), .int .u8 (n / 65536 % 256), .int .u8 (n / 256 % 256), .int .u8 (n % 256)] 5)) (some ⟨w.heap.size, 0, none⟩) 4 (db_be4 n) from C_lit (heap_alloc_new w _) .u8 (db_be4 n) rfl (by simp [db_be4]))
  obtain ⟨ys, hys⟩ : ∃ y : List Int, y = xs ++ db_be4 n := ⟨_, rfl⟩
  rw [← hys]
  have NY := Aside0.mk hys
  clear hys
  go_enter Try.func31, Try.ntmps31
  go_wp2_with (((with_reducible refine gate_builtin (b := .append) (xs := #[.tmp 3, .tmp 15]) rfl ?_); at_builtin; (refine Kd.R_append_rows (Kd.int .u8) (w0 := w0) w0.heap.size rfl (.tmp 3) (.tmp 15) 22 5 (.int .u8 0) 1 rfl Try.underlying22 info5 rfl (by decide) (by omega) v xs (db_be4 n) (some ⟨w.heap.size, 0, none⟩) 4 4 (fun _ => True) (fun _ => False) rfl rfl ?aO ?aR (fun _ _ h => h) (fun _ h => h.elim) ?aF ?aB ?aS ?aL ?_); (case aR => exact HL4.out); (case aB => exact below_alloc HB.out _); (case aF => exact (fun _ _ => trivial)); (case aO => exact Kd.R_alloc HO.out _); (case aS => exact below_size (below_alloc HB.out _)); (case aL => have := HL.out; omega); intro v' w5 ho5 hb5 hg5 hat5; rw [← NY.out] at ho5; obtain ⟨A5, k5, e5⟩ := Kd.R_slice ho5; subst e5; have hne := Kd.R_ne HO.out HC.out (by decide); have hc5 := blk_grown (blk_alloc HC.out _) hg5 hne; have HO5 := Aside0.mk ho5; have HB5 := Aside0.mk hb5; have HG5 := Aside0.mk hg5; have HA5 := Aside0.mk hat5; have hcell5 : w5.cell? ⟨g, 0, none⟩ = some v := blk_cell hc5 0; have hfr5 : w5.frozen? ⟨g, 0, none⟩ = false := blk_frozen hc5 0; have HC5 := Aside0.mk hc5; have HN := Aside0.mk hne; clear ho5 hb5 hg5 hat5 hc5 hne HL4))
  go_end0
  refine ⟨rfl, _, one_setCell HC5.out, Kd.R_set HO5.out HC5.out (by decide) _ _, HB5.out.setCell HG.out _, (KeepBut.of_grown (World.grownBy.trans (World.grownBy_alloc w _ _) HG5.out) g).set_ _ _, ?_⟩
  rcases HA5.out with h | ⟨b, hb, hle⟩
  · exact .inl h
  · exact .inr ⟨b, hb, Nat.le_trans (by simp) hle⟩
/-- A full row that is read (a constant's, marked): append makes a row of the call's own. -/
theorem delta_Bytes.grows {P : Program} {ops : Array Oper} {rest : List Oper} {o : Oper} {a : Act} {Q : Exit → Act → World → Prop} {w0 W : World} (base : Nat) (hgd : o.guard = none) (s x : Operand) (t e : TypeId) (k : IntKind) (bytes : Nat)
    (ho : o.op = .call { callee := .builtin .append, args := #[s, x], argTypes := #[t, t] })
    (ht : P.underlying t = some (.slice e)) (hinfo : (P.info? e).map (fun i => (i.zero, i.size, i.bytes)) = some (some (.int k 0), 1, bytes)) (hb0 : 0 < bytes)
    (ad B : Addr) (n c m c2 : Nat) (xs ys : List Int) (hs : a.eval s = .slice (some ad) n c) (hx : a.eval x = .slice (some B) m c2)
    (HC : Kd.C (Kd.int k) W (some ad) n xs) (HY : Kd.C (Kd.int k) W (some B) m ys) (hfull : c < n + m) (HB : Below base w0 W) (hbase : base ≤ W.heap.size) (hl : (n + m) * bytes ≤ 140737488355328)
    (h : ∀ v1 w1, Kd.R (Kd.int k) e w1 base (fun _ => True) v1 (xs ++ ys) → Below base w0 w1 → W.grownBy w1 none → (∃ b, v1.ownBlock = some b ∧ W.heap.size ≤ b) → wpList P ops Q rest (a.put o.dst v1) w1) :
    wpList P ops Q (o :: rest) a W := by
  obtain ⟨i0, hi, hzz⟩ := Option.map_eq_some_iff.1 hinfo
  simp only [Prod.mk.injEq] at hzz
  obtain ⟨hz0, hz1, hz2⟩ := hzz
  have hlen : n + m ≤ 140737488355328 := Nat.le_trans (Nat.le_mul_of_pos_right _ hb0) hl
  have hxl : xs.length = n := HC.1
  have hyl : ys.length = m := HY.1
  have cells : ∀ {ad' : Addr} {n' : Nat} {zs : List Int}, Kd.C (Kd.int k) W (some ad') n' zs → ∀ j u, (nums k zs)[j]? = some u → W.cell? (ad'.add j) = some u := by
    intro ad' n' zs hz j u hj
    have hzl : zs.length = n' := hz.1
    have hj' : j < zs.length := by have := (List.getElem?_eq_some_iff.1 hj).1; rwa [nums_length] at this
    obtain ⟨ad2, e2, hc2⟩ := Kd.at_int hz (j : Int) (by omega) (by omega)
    cases e2
    rw [Int.toNat_natCast] at hc2
    rw [hc2]
    simp only [nums, List.getElem?_map, List.getElem?_eq_getElem hj', Option.map_some, Option.some.injEq] at hj
    rw [← hj]
    simp [rd, List.getD_eq_getElem?_getD, List.getElem?_eq_getElem hj']
  refine wpList_append_grows W hgd s x t ho e i0 (.int k 0) 1 bytes ht hi hz0 hz1 hz2 rfl (by decide) (some ad) n c (nums k xs) hs (by simp) (by rw [nums_length, hxl]; omega) (fun b hb => by cases hb; exact cells HC) B m c2 (nums k ys) hx (by rw [nums_length, hyl]; omega) (cells HY) (by simp [nums, Value.oneCell']) hfull (by simp only [maxLen]; omega) hl ?_
  intro v' w' hown hg
  have hbl : ∃ b, v'.ownBlock = some b ∧ W.heap.size ≤ b := by
    rcases hown.2 with ⟨_, h0⟩ | ⟨g, cap, cur, rfl, hg1, _⟩
    · omega
    · exact ⟨g, rfl, hg1⟩
  have hown' : w'.ownsRow W.heap.size e 1 v' (xs ++ ys).length (nums k (xs ++ ys)) := by rw [nums_append, List.length_append, hxl, hyl]; exact hown
  exact h v' w' (Kd.R_lower (Kd.R_of_own (enc := Value.int k) hown' (fun _ _ => trivial)) hbase) (HB.grown hg hbase (by simp)) hg hbl
set_option maxHeartbeats 8000000 in
set_option maxRecDepth 100000 in
/-- The same where the block holds the constant's row, which is full. -/
theorem delta_Bytes.put0 (w0 w : World) (g : Nat) (n : Int) (ad : Addr) (m : Nat) (xs : List Int) (hg : w0.heap.size ≤ g) (hc : w.heap[g]? = some (.cells #[.slice (some ad) m m] 22 (0, 0))) (ho : Kd.C (Kd.int .u8) w (some ad) m xs) (hB : Below w0.heap.size w0 w) (hl : m + 4 < 140737488355328) :
    Calls Try.prog 31 #[.int .i64 n, .pointer (some ⟨g, 0, none⟩)] w fun e w' => e = .returned (.tuple #[]) ∧ ∃ v' : Value, w'.heap[g]? = some (.cells #[v'] 22 (0, 0)) ∧ Kd.R (Kd.int .u8) 5 w' w0.heap.size (fun _ => True) v' (xs ++ db_be4 n) ∧ Below w0.heap.size w0 w' := by
  have hcell := blk_cell hc 0
  replace hcell : w.cell? ⟨g, 0, none⟩ = some (.slice (some ad) m m) := hcell
  have HL4 := Aside0.mk (show Kd.C (Kd.int .u8) (w.alloc (.cells #[.int .u8 (n / 16777216 % 256), .int .u8 (n / 65536 % 256), .int .u8 (n / 256 % 256), .int .u8 (n % 256)] 5)) (some ⟨w.heap.size, 0, none⟩) 4 (db_be4 n) from C_lit (heap_alloc_new w _) .u8 (db_be4 n) rfl (by simp [db_be4]))
  have HG := Aside0.mk hg
  have HO := Aside0.mk ho
  have HC := Aside0.mk hc
  have HB := Aside0.mk hB
  have HL := Aside0.mk hl
  clear hc ho hB hg hl
  obtain ⟨ys, hys⟩ : ∃ y : List Int, y = xs ++ db_be4 n := ⟨_, rfl⟩
  rw [← hys]
  have NY := Aside0.mk hys
  clear hys
  go_enter Try.func31, Try.ntmps31
  go_wp2_with (((with_reducible refine gate_builtin (b := .append) (xs := #[.tmp 3, .tmp 15]) rfl ?_); at_builtin; (refine delta_Bytes.grows (w0 := w0) w0.heap.size rfl (.tmp 3) (.tmp 15) 22 5 .u8 1 rfl Try.underlying22 info5 (by decide) ad ⟨w.heap.size, 0, none⟩ m m 4 4 xs (db_be4 n) rfl rfl ?aO ?aR ?aU ?aB ?aS ?aL ?_); (case aR => exact HL4.out); (case aU => omega); (case aB => exact below_alloc HB.out _); (case aO => exact Kd.C_alloc HO.out _); (case aS => exact below_size (below_alloc HB.out _)); (case aL => have := HL.out; omega); intro v' w5 ho5 hb5 hg5 hat5; rw [← NY.out] at ho5; obtain ⟨A5, k5, e5⟩ := Kd.R_slice ho5; subst e5; have hc5 := blk_grown (blk_alloc HC.out _) hg5 (by simp); have HO5 := Aside0.mk ho5; have HB5 := Aside0.mk hb5; have hcell5 : w5.cell? ⟨g, 0, none⟩ = some (.slice (some ad) m m) := blk_cell hc5 0; have hfr5 : w5.frozen? ⟨g, 0, none⟩ = false := blk_frozen hc5 0; have HC5 := Aside0.mk hc5; clear ho5 hb5 hg5 hat5 hc5 HL4))
  go_end0
  exact ⟨rfl, _, one_setCell HC5.out, Kd.R_set HO5.out HC5.out (by decide) _ _, HB5.out.setCell HG.out _⟩
/-- The block G holds a row of the call's own. -/
def db_St (w W : World) (G : Nat) (xs : List Int) : Prop := w.heap.size ≤ G ∧ Below w.heap.size w W ∧ ∃ v : Value, W.heap[G]? = some (.cells #[v] 22 (0, 0)) ∧ Kd.R (Kd.int .u8) 5 W w.heap.size (fun _ => True) v xs
theorem db_St.below {w W W1 : World} {G : Nat} {xs : List Int} (h : db_St w W G xs) (hb : Below W.heap.size W W1) : db_St w W1 G xs := by
  obtain ⟨h1, h2, v, h3, h4⟩ := h
  exact ⟨h1, below_step h2 hb, v, (hb.block G (blk_lt h3)).trans h3, Kd.R_below h4 hb⟩
theorem db_St.open_ {w W : World} {G : Nat} {xs : List Int} (h : db_St w W G xs) : ∃ A c, W.cell? ⟨G, 0, none⟩ = some (.slice A xs.length c) ∧ W.frozen? ⟨G, 0, none⟩ = false ∧ xs.length ≤ c ∧ Kd.C (Kd.int .u8) W A xs.length xs ∧ W.heap[G]? = some (.cells #[.slice A xs.length c] 22 (0, 0)) ∧ Kd.R (Kd.int .u8) 5 W w.heap.size (fun _ => True) (.slice A xs.length c) xs := by
  obtain ⟨h1, h2, v, h3, h4⟩ := h
  obtain ⟨A, c, rfl, hl, hr⟩ := Kd.R_reads h4
  exact ⟨A, c, blk_cell h3 0, blk_frozen h3 0, hl, hr, h3, h4⟩
theorem delta_Bytes.puts {w W : World} {G : Nat} {xs : List Int} (n : Int) (h : db_St w W G xs) (hl : xs.length + 4 < 140737488355328) :
    Calls Try.prog 31 #[.int .i64 n, .pointer (some ⟨G, 0, none⟩)] W fun e w' => e = .returned (.tuple #[]) ∧ db_St w w' G (xs ++ db_be4 n) ∧ ∀ (i : Nat) (cs : Array Value), W.heap[i]? = some (.cells cs 33 (0, 0)) → w'.heap[i]? = some (.cells cs 33 (0, 0)) := by
  obtain ⟨h1, h2, v, h3, h4⟩ := h
  refine (delta_Bytes.put w W G n v xs h1 h3 h4 h2 hl).mono ?_
  rintro e w' ⟨rfl, v', h5, h6, h7, h8, _⟩
  exact ⟨rfl, ⟨h1, h7, v', h5, h6⟩, fun i cs hi => h8.blk hi (blk_ne hi h3 (by decide)) (Kd.R_ne h4 hi (by decide))⟩
theorem db_sum_w (l : List (List Int)) : wrap64 (sm_sumf l) = sm_sumf l := by
  have h : 0 ≤ sm_sumf l ∧ sm_sumf l < 4294967296 := by
    unfold sm_sumf
    generalize l.foldl sm_rowc 4294967295 = c
    have e : bits .xor .u32 4294967295 c = (((BitVec.ofInt 32 4294967295 ^^^ BitVec.ofInt 32 c).toNat : Nat) : Int) := by
      show IntKind.u32.wrap (((BitVec.ofInt 32 4294967295 ^^^ BitVec.ofInt 32 c).toNat : Nat) : Int) = _
      rw [IntKind.wrap_u32]
      have := (BitVec.ofInt 32 4294967295 ^^^ BitVec.ofInt 32 c).isLt
      omega
    have := (BitVec.ofInt 32 4294967295 ^^^ BitVec.ofInt 32 c).isLt
    rw [e]
    omega
  unfold wrap64
  omega
theorem db_put_len (n : Int) : (db_be4 n).length = 4 := rfl
def db_l : List S33 → List Int → Option (List Int × Int)
  | [], out => if out.length < 140737488355320 then some (out ++ db_be4 (sm_sumf [out]), 0) else none
  | p :: ps, out => if (p.f2.length : Int) > 4294967295 then some ([], 6) else if out.length + p.f2.length < 140737488355300 then db_l ps (out ++ db_be4 p.f0 ++ db_be4 p.f1 ++ db_be4 (p.f2.length : Int) ++ p.f2) else none
def delta_Bytes.f (k : Nat) (l0 : List Int) (l1 : List S33) : Option (List Int × Int) :=
  (delta_fit.f k (l0.length : Int) l1).bind fun t => if t = true then (if (l0.length : Int) > 4294967295 then some ([], 6) else if (l1.length : Int) > 4294967295 then some ([], 6) else db_l l1 ([84, 80, 68, 49] ++ db_be4 (l0.length : Int) ++ db_be4 (sm_sumf [l0]) ++ db_be4 (l1.length : Int))) else some ([], 33)
theorem delta_Bytes.mono : ∀ a0 a1 k, LeO (delta_Bytes.f k a0 a1) (delta_Bytes.f (k + 1) a0 a1) := by
  intro a0 a1 k r h
  unfold delta_Bytes.f at h ⊢
  obtain ⟨t, ht, h⟩ := Option.bind_eq_some_iff.mp h
  rw [delta_fit.mono _ _ k t ht]
  exact h
set_option maxHeartbeats 8000000 in
set_option maxRecDepth 100000 in
theorem delta_Bytes.calls (k : Nat) (A0 : Option Addr) (c0 : Nat) (l0 : List Int) (A1 : Option Addr) (c1 : Nat) (l1 : List S33) (r1 : List Int) (r2 : Int) (w : World) (hr0 : Kd.C (Kd.int .u8) w A0 l0.length l0) (hc0 : l0.length ≤ c0) (hr1 : Kd.C k33 w A1 l1.length l1) (hc1 : l1.length ≤ c1) (h : delta_Bytes.f k l0 l1 = some (r1, r2)) :
    Calls Try.prog 20 #[.slice A0 l0.length c0, .slice A1 l1.length c1] w fun e w' => ∃ v0_ : Value, e = .returned (.tuple #[v0_, .int .i64 r2]) ∧ Kd.R (Kd.int .u8) 5 w' w.heap.size (fun _ => True) v0_ r1 ∧ Below w.heap.size w w' := by
  unfold delta_Bytes.f at h
  replace h := Option.bind_eq_some_iff.mp h
  obtain ⟨t, ht, h⟩ := h
  have HR0 := Aside0.mk hr0
  have HR1 := Aside0.mk hr1
  have HF := Aside0.mk ht
  have hm0 : l0.length ≤ 9223372036854775807 := hr0.2.1
  have hm1 : l1.length ≤ 9223372036854775807 := hr1.2.1
  clear hr0 hr1 ht
  cases t with
  | false =>
    simp at h
    obtain ⟨h1, h2⟩ := h
    subst h1 h2
    go_enter Try.func20, Try.ntmps20
    go_wp2_with fail
    refine (delta_fit.calls k _ _ _ l1 false _ HR1.out hc1 HF.out).mono ?_
    rintro e w1 ⟨rfl, hb⟩
    go_wp2
    go_ret2
    exact ⟨_, rfl, Kd.R_nil _ _ _ _ _, hb⟩
  | true =>
    rw [if_pos rfl] at h
    by_cases hl0 : (l0.length : Int) > 4294967295
    · rw [if_pos hl0] at h
      simp at h
      obtain ⟨h1, h2⟩ := h
      subst h1 h2
      have hd : decide ((4294967295 : Int) < (l0.length : Int)) = true := decide_eq_true hl0
      clear hl0
      go_enter Try.func20, Try.ntmps20
      go_wp2_with fail
      refine (delta_fit.calls k _ _ _ l1 true _ HR1.out hc1 HF.out).mono ?_
      rintro e w1 ⟨rfl, hb⟩
      go_wp2
      go_ret2
      exact ⟨_, rfl, Kd.R_nil _ _ _ _ _, hb⟩
    · rw [if_neg hl0] at h
      have hd : decide ((4294967295 : Int) < (l0.length : Int)) = false := decide_eq_false hl0
      by_cases hl1 : (l1.length : Int) > 4294967295
      · rw [if_pos hl1] at h
        simp at h
        obtain ⟨h1, h2⟩ := h
        subst h1 h2
        have hd1 : decide ((4294967295 : Int) < (l1.length : Int)) = true := decide_eq_true hl1
        clear hl0 hl1
        go_enter Try.func20, Try.ntmps20
        go_wp2_with fail
        refine (delta_fit.calls k _ _ _ l1 true _ HR1.out hc1 HF.out).mono ?_
        rintro e w1 ⟨rfl, hb⟩
        go_wp2
        go_ret2
        exact ⟨_, rfl, Kd.R_nil _ _ _ _ _, hb⟩
      · rw [if_neg hl1] at h
        have hd1 : decide ((4294967295 : Int) < (l1.length : Int)) = false := decide_eq_false hl1
        have hmf : ∀ (fn : Fn) (first cap : Array Value) (w : World), (Instr.makeFunc fn first cap).run Try.prog w = .ok (.func fn first cap) w := fun _ _ _ _ => rfl
        have kc := fun (w : World) (C : Array Value) (n c : Nat) => Lib.run_convert_bytes_const (P := Try.prog) w 22 5 C n c Try.underlying22 Try.underlying5
        have HH := Aside0.mk h
        clear h hl0 hl1
        go_enter Try.func20, Try.ntmps20
        go_wp2_with fail
        refine (delta_fit.calls k _ _ _ l1 true _ HR1.out hc1 HF.out).mono ?_
        rintro e w1 ⟨rfl, hb⟩
        go_wp2_with fail
        clear kc hmf
        obtain ⟨W, hW⟩ : ∃ W : World, W = ((w1.alloc (.cells #[.int .u8 84, .int .u8 80, .int .u8 68, .int .u8 49] 5 (4, 5))).alloc (.cells #[.slice (some ⟨w1.heap.size, 0, none⟩) 4 4] 22)) := ⟨_, rfl⟩
        have hBW : Below w.heap.size w W := by rw [hW]; exact below_alloc (below_alloc hb _) _
        have h0 : W.heap[w1.heap.size]? = some (.cells #[.int .u8 84, .int .u8 80, .int .u8 68, .int .u8 49] 5 (4, 5)) := by rw [hW]; exact blk_alloc (heap_alloc_new w1 _) _
        have h1 : W.heap[w1.heap.size + 1]? = some (.cells #[.slice (some ⟨w1.heap.size, 0, none⟩) 4 4] 22 (0, 0)) := by rw [hW]; exact heap_alloc2_new w1 _ _
        have hC := C_lit h0 .u8 [84, 80, 68, 49] rfl (by decide)
        rw [← hW]
        clear hW h0
        obtain ⟨G, hG⟩ : ∃ G, G = w1.heap.size + 1 := ⟨_, rfl⟩
        have hGw : w.heap.size ≤ G := by have := hb.size; omega
        rw [← hG] at h1 ⊢
        refine (delta_Bytes.put0 w W G _ ⟨w1.heap.size, 0, none⟩ 4 [84, 80, 68, 49] hGw h1 hC hBW (by decide)).mono ?_
        rintro e w2 ⟨rfl, v2, hc2, ho2, hb2⟩
        have hs2 : db_St w w2 G ([84, 80, 68, 49] ++ db_be4 (l0.length : Int)) := ⟨hGw, hb2, v2, hc2, ho2⟩
        have HS := Aside0.mk hs2
        clear hs2 hc2 ho2 hb2 h1 hC hBW hG hb hGw
        go_wp2_with fail
        refine (wire_Sum.calls (some ⟨w2.heap.size, 0, none⟩) 1 [l0] (sm_sumf [l0]) _ (sm_C_one (heap_alloc_new w2 _) 5 .u8 l0 rfl hc0 (Kd.C_below HR0.out (below_alloc HS.out.2.1 _))) (by simp) rfl).mono ?_
        rintro e w3 ⟨rfl, hb3⟩
        have hs3 := HS.out.below (below_step (below_alloc (Below.refl _ _) _) hb3)
        clear HS hb3
        have HS := Aside0.mk hs3
        clear hs3
        go_wp2_with fail
        rw [db_sum_w]
        refine (delta_Bytes.puts (sm_sumf [l0]) HS.out (by simp [db_put_len])).mono ?_
        rintro e w4 ⟨rfl, hs4, _⟩
        clear HS
        have HS := Aside0.mk hs4
        clear hs4
        go_wp2_with fail
        refine (delta_Bytes.puts (l1.length : Int) HS.out (by simp [db_put_len])).mono ?_
        rintro e w5 ⟨rfl, hs5, _⟩
        clear HS
        have HS := Aside0.mk hs5
        clear hs5
        go_wp2_with fail
        obtain ⟨o0, ho0⟩ : ∃ o : List Int, o = [84, 80, 68, 49] ++ db_be4 (l0.length : Int) ++ db_be4 (sm_sumf [l0]) ++ db_be4 (l1.length : Int) := ⟨_, rfl⟩
        rw [← ho0] at HH HS
        clear ho0
        clear hd hd1
        go_loopw [42] (fun v42 wr => ∃ (n : Nat) (out : List Int), n ≤ l1.length ∧ v42 = .int .i64 n ∧ Aside0 (db_l (l1.drop n) out = some (r1, r2)) ∧ Aside0 (db_St w wr G out)) (fun v42 _ => l1.length - (intOf v42).toNat)
        case atStart => exact ⟨0, o0, by omega, rfl, ⟨by simpa using HH.out⟩, HS⟩
        case round =>
          clear HH HS
          obtain ⟨n, out, hn, rfl, HD, HS⟩ := hrel
          by_cases hlt : n < l1.length
          · obtain ⟨ad, A2, c2, e1, hx0, hx1, hx2, hl2, hi2⟩ := at_T33 HR1.out (n : Int) (by omega) (by omega)
            subst e1
            have hdl : l1.drop n = rd_T33 l1 (n : Int) :: l1.drop (n + 1) := by
              rw [List.drop_eq_getElem_cons hlt]
              simp [rd_T33, List.getD_eq_getElem?_getD, List.getElem?_eq_getElem hlt]
            obtain ⟨q, hq⟩ : ∃ q, q = rd_T33 l1 (n : Int) := ⟨_, rfl⟩
            rw [← hq] at hdl hx0 hx1 hx2 hl2 hi2
            rw [Int.toNat_natCast] at hx0 hx1 hx2
            replace HD := HD.out
            rw [hdl] at HD
            unfold db_l at HD
            have hx0' := pw_cell_below HS.out.2.1 hx0
            have hx1' := pw_cell_below HS.out.2.1 hx1
            have hx2' := pw_cell_below HS.out.2.1 hx2
            have Hi2 := Aside0.mk hi2
            have Hl2 := Aside0.mk hl2
            have hqm : q.f2.length ≤ 9223372036854775807 := hi2.2.1
            clear hq hdl hx0 hx1 hx2 hl2 hi2
            by_cases hw : (q.f2.length : Int) > 4294967295
            · rw [if_pos hw] at HD
              have hd : decide ((4294967295 : Int) < (q.f2.length : Int)) = true := decide_eq_true hw
              simp at HD
              obtain ⟨h1, h2⟩ := HD
              subst h1 h2
              clear hw
              go_wp2
              go_ret2
              exact ⟨_, rfl, Kd.R_nil _ _ _ _ _, below_alloc HS.out.2.1 _⟩
            · rw [if_neg hw] at HD
              have hd : decide ((4294967295 : Int) < (q.f2.length : Int)) = false := decide_eq_false hw
              clear hw
              go_wp2_with fail
              have hHP := heap_alloc_new wr (.cells #[.int .i64 q.f0, .int .i64 q.f1, .slice A2 q.f2.length c2] 33)
              by_cases hln : out.length + q.f2.length < 140737488355300
              · rw [if_pos hln] at HD
                have HDD := Aside0.mk HD
                clear HD hx0' hx1' hx2' hd
                refine (delta_Bytes.puts q.f0 (HS.out.below (below_alloc (Below.refl _ _) _)) (by omega)).mono ?_
                rintro e w2 ⟨rfl, hs2, hk2⟩
                replace hHP := hk2 _ _ hHP
                have hf0 : w2.cell? ⟨wr.heap.size, 0, none⟩ = some (.int .i64 q.f0) := blk_cell hHP 0
                have hf1 : w2.cell? ⟨wr.heap.size, 1, none⟩ = some (.int .i64 q.f1) := blk_cell hHP 1
                have hf2 : w2.cell? ⟨wr.heap.size, 2, none⟩ = some (.slice A2 q.f2.length c2) := blk_cell hHP 2
                clear hk2 HS
                have HS := Aside0.mk hs2
                have HP := Aside0.mk hHP
                clear hs2 hHP
                go_wp2_with fail
                refine (delta_Bytes.puts q.f1 HS.out (by rw [List.length_append, db_put_len]; omega)).mono ?_
                rintro e w3 ⟨rfl, hs2, hk2⟩
                have hHP := hk2 _ _ HP.out
                clear hf0 hf1 hf2 HP
                have hf0 : w3.cell? ⟨wr.heap.size, 0, none⟩ = some (.int .i64 q.f0) := blk_cell hHP 0
                have hf1 : w3.cell? ⟨wr.heap.size, 1, none⟩ = some (.int .i64 q.f1) := blk_cell hHP 1
                have hf2 : w3.cell? ⟨wr.heap.size, 2, none⟩ = some (.slice A2 q.f2.length c2) := blk_cell hHP 2
                clear hk2 HS
                have HS := Aside0.mk hs2
                have HP := Aside0.mk hHP
                clear hs2 hHP
                go_wp2_with fail
                refine (delta_Bytes.puts (q.f2.length : Int) HS.out (by rw [List.length_append, List.length_append, db_put_len, db_put_len]; omega)).mono ?_
                rintro e w4 ⟨rfl, hs2, hk2⟩
                have hHP := hk2 _ _ HP.out
                clear hf0 hf1 hf2 HP
                have hf2 : w4.cell? ⟨wr.heap.size, 2, none⟩ = some (.slice A2 q.f2.length c2) := blk_cell hHP 2
                clear hk2 HS hHP
                obtain ⟨o3, ho3⟩ : ∃ o : List Int, o = out ++ db_be4 q.f0 ++ db_be4 q.f1 ++ db_be4 (q.f2.length : Int) := ⟨_, rfl⟩
                rw [← ho3] at hs2 HDD
                have hl3 : o3.length + q.f2.length < 140737488355328 := by rw [ho3]; simp only [List.length_append, db_put_len]; omega
                clear ho3
                obtain ⟨o4, ho4⟩ : ∃ o : List Int, o = o3 ++ q.f2 := ⟨_, rfl⟩
                rw [← ho4] at HDD
                have NO := Aside0.mk ho4
                have HL3 := Aside0.mk hl3
                clear ho4 hl3
                obtain ⟨A3, c3, hG0, hfr0, _, _, hG1, hR3⟩ := hs2.open_
                have HG := Aside0.mk hs2.1
                have HB4 := Aside0.mk hs2.2.1
                have HG1 := Aside0.mk hG1
                have HR3 := Aside0.mk hR3
                clear hs2 hfr0 hG1 hR3
                have hA3 := Aside0.mk (Kd.C_below Hi2.out HB4.out)
                go_wp2_with (((with_reducible refine gate_builtin (b := .append) (xs := #[.tmp 63, .tmp 65]) rfl ?_); at_builtin; (refine Kd.R_append_rows (Kd.int .u8) (w0 := w) w.heap.size rfl (.tmp 63) (.tmp 65) 22 5 (.int .u8 0) 1 rfl Try.underlying22 info5 rfl (by decide) (by omega) (.slice A3 o3.length c3) o3 q.f2 A2 q.f2.length c2 (fun _ => True) (fun _ => False) rfl rfl ?aO ?aR (fun _ _ h => h) (fun _ h => h.elim) ?aF ?aB ?aS ?aL ?_); (case aR => exact hA3.out); (case aB => exact HB4.out); (case aF => exact (fun _ _ => trivial)); (case aO => exact HR3.out); (case aS => exact below_size HB4.out); (case aL => have := HL3.out; omega); intro v' w5 ho5 hb5 hg5 hat5; rw [← NO.out] at ho5; obtain ⟨A5, k5, e5⟩ := Kd.R_slice ho5; subst e5; have hne := Kd.R_ne HR3.out HG1.out (by decide); have hc5 := blk_grown HG1.out hg5 hne; have HO5 := Aside0.mk ho5; have HB5 := Aside0.mk hb5; have hcell5 : w5.cell? ⟨G, 0, none⟩ = some (.slice A3 o3.length c3) := blk_cell hc5 0; have hfr5 : w5.frozen? ⟨G, 0, none⟩ = false := blk_frozen hc5 0; have HC5 := Aside0.mk hc5; clear ho5 hb5 hg5 hat5 hc5 hne))
                go_roundw
                case rel => exact ⟨n + 1, o4, by omega, by go_num, HDD, ⟨HG.out, HB5.out.setCell HG.out _, _, one_setCell HC5.out, Kd.R_set HO5.out HC5.out (by decide) _ _⟩⟩
                case measure => simp [intOf]; omega
              · rw [if_neg hln] at HD
                exact absurd HD (by simp)
          · obtain rfl : n = l1.length := by omega
            replace HD := HD.out
            rw [List.drop_length] at HD
            unfold db_l at HD
            by_cases hln : out.length < 140737488355320
            · rw [if_pos hln] at HD
              simp at HD
              obtain ⟨h1, h2⟩ := HD
              obtain ⟨A3, c3, hG0, _, hc3, hi3, _, _⟩ := HS.out.open_
              have Hi3 := Aside0.mk hi3
              have Hc3 := Aside0.mk hc3
              have HL := Aside0.mk hln
              have H1 := Aside0.mk h1
              subst h2
              clear hi3 hc3 hln h1
              go_wp2_with fail
              refine (wire_Sum.calls (some ⟨wr.heap.size, 0, none⟩) 1 [out] (sm_sumf [out]) _ (sm_C_one (heap_alloc_new wr _) 5 .u8 out rfl Hc3.out (Kd.C_alloc Hi3.out _)) (by simp) rfl).mono ?_
              rintro e w3 ⟨rfl, hb3⟩
              have hs3 := HS.out.below (below_step (below_alloc (Below.refl _ _) _) hb3)
              clear HS hb3 hG0
              have HS := Aside0.mk hs3
              clear hs3
              go_wp2_with fail
              rw [db_sum_w]
              refine (delta_Bytes.puts (sm_sumf [out]) HS.out (by have := HL.out; omega)).mono ?_
              rintro e w4 ⟨rfl, hs4, _⟩
              rw [H1.out] at hs4
              obtain ⟨A5, c5, hG5, _, _, _, _, hR5⟩ := hs4.open_
              have HR5 := Aside0.mk hR5
              have HB5 := Aside0.mk hs4.2.1
              clear hR5 hs4
              go_wp2
              go_ret2
              exact ⟨_, rfl, HR5.out, HB5.out⟩
            · rw [if_neg hln] at HD
              exact absurd HD (by simp)

end Go.Proofs.Ytlfkbkobkibemaa.PT
