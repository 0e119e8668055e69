-- Written by wip/xprint.py, a driver of this session's own over the kit's printer; Lean checks it.
import Derived.Test.YtlfkbkobkibemaaPTx0
import Derived.Test.YtlfkbkobkibemaaPTx19
import Derived.Test.YtlfkbkobkibemaaPTx21
import Derived.Test.YtlfkbkobkibemaaPTx23
import Derived.Lib.SlBytesConst
namespace Go.Proofs.Ytlfkbkobkibemaa.PT
open Go.Proofs.YtlfkbkobkibemaaM Go.RowKit Go.Proofs.YtlfkbkobkibemaaW.PrintWords Go.Proofs.YtlfkbkobkibemaaW.PrintLast Go.Proofs.YtlfkbkobkibemaaW.PrintMore
attribute [local go_sem] max2_int min2_int max_two min_two max_three min_three max_four min_four   -- for this text's walks alone
set_option linter.unusedVariables false
set_option linter.unusedSimpArgs false

/-! ### turnpikeref21_Bytes: function 22 (by hand) -/
-- IMPORT Derived.Lib.SlBytesConst
def turnpikeref21_Bytes.l0 : Nat → List (S33) → List Int → Int → Option (List Int × Int)
  | 0, _, _, _ => none
  | k + 1, x1, x6, x7 => if x7 < (x1.length : Int) then (if 0 ≤ x7 then ((turnpikeref13_Put.f k x6 (((rd_T33 x1 x7).f0) % 4294967296) 4).bind fun t339 => ((turnpikeref13_Put.f k t339 (((rd_T33 x1 x7).f1) % 4294967296) 4).bind fun t343 => ((turnpikeref13_Put.f k t343 (((((rd_T33 x1 x7).f2).length : Int)) % 4294967296) 4).bind fun t347 => (if t347.length + ((rd_T33 x1 x7).f2).length < 140737488355328 then (turnpikeref21_Bytes.l0 k x1 (t347 ++ ((rd_T33 x1 x7).f2)) (wrap64 (x7 + 1))) else (none))))) else (none)) else ((turnpikeref13_Sum.f k x6).bind fun t354 => ((turnpikeref13_Put.f k x6 t354 4).bind fun t355 => (some (t355, 0))))
def turnpikeref21_Bytes.f (k : Nat) (l0 : List Int) (l1 : List (S33)) : Option (List Int × Int) := (turnpikeref21_Fit.f k (l0.length : Int) l1).bind fun t324 => (if t324 = true then ((turnpikeref13_Put.f k (([84, 80, 68, 49] : List Int)) (((l0.length : Int)) % 4294967296) 4).bind fun t328 => ((turnpikeref13_Sum.f k l0).bind fun t331 => ((turnpikeref13_Put.f k t328 t331 4).bind fun t332 => ((turnpikeref13_Put.f k t332 (((l1.length : Int)) % 4294967296) 4).bind fun t335 => (turnpikeref21_Bytes.l0 k l1 t335 0))))) else (some (([] : List Int), 33)))
theorem turnpikeref21_Bytes.mono_l : ∀ k, (∀ y0 y1 y2, LeO (turnpikeref21_Bytes.l0 k y0 y1 y2) (turnpikeref21_Bytes.l0 (k + 1) y0 y1 y2))
  | 0 => fun _ _ _ r h => by simp [turnpikeref21_Bytes.l0] at h
  | k + 1 => by
    have ih0 := turnpikeref21_Bytes.mono_l k
    · intro y0 y1 y2
      unfold turnpikeref21_Bytes.l0
      repeat' first
      | (with_reducible exact ih0 _ _ _)
      | (with_reducible exact turnpikeref13_Put.mono _ _ _ _)
      | (with_reducible exact turnpikeref13_Sum.mono _ _)
      | (with_reducible exact turnpikeref21_Fit.mono _ _ _)
      | (with_reducible exact LeO.refl _)
      | (with_reducible exact LeO.none _)
      | (with_reducible refine LeO.ite ?_ ?_)
      | (with_reducible refine LeO.bind ?_ (fun _ => ?_))
      | exact ih0 _ _ _
      | exact turnpikeref13_Put.mono _ _ _ _
      | exact turnpikeref13_Sum.mono _ _
      | exact turnpikeref21_Fit.mono _ _ _
      | exact LeO.none _
      | refine LeO.ite ?_ ?_
      | refine LeO.bind ?_ (fun _ => ?_)
theorem turnpikeref21_Bytes.mono : ∀ a0 a1 k, LeO (turnpikeref21_Bytes.f k a0 a1) (turnpikeref21_Bytes.f (k + 1) a0 a1) := by
  intro a0 a1 k
  have ih0 := turnpikeref21_Bytes.mono_l k
  unfold turnpikeref21_Bytes.f
  repeat' first
      | (with_reducible exact ih0 _ _ _)
      | (with_reducible exact turnpikeref13_Put.mono _ _ _ _)
      | (with_reducible exact turnpikeref13_Sum.mono _ _)
      | (with_reducible exact turnpikeref21_Fit.mono _ _ _)
      | (with_reducible exact LeO.refl _)
      | (with_reducible exact LeO.none _)
      | (with_reducible refine LeO.ite ?_ ?_)
      | (with_reducible refine LeO.bind ?_ (fun _ => ?_))
      | exact ih0 _ _ _
      | exact turnpikeref13_Put.mono _ _ _ _
      | exact turnpikeref13_Sum.mono _ _
      | exact turnpikeref21_Fit.mono _ _ _
      | exact LeO.none _
      | refine LeO.ite ?_ ?_
      | refine LeO.bind ?_ (fun _ => ?_)
/-- A full row that is read (a constant's, marked): append makes a row of the call's own. -/
theorem turnpikeref21_Bytes.grows {P : Program} {ops : Array Oper} {rest : List Oper} {o : Oper} {a : Act} {Q : Exit → Act → World → Prop} {w0 W : World} (base : Nat) (hgd : o.guard = none) (s x : Operand) (t e : TypeId) (k : IntKind) (bytes : Nat)
    (ho : o.op = .call { callee := .builtin .append, args := #[s, x], argTypes := #[t, t] })
    (ht : P.underlying t = some (.slice e)) (hinfo : (P.info? e).map (fun i => (i.zero, i.size, i.bytes)) = some (some (.int k 0), 1, bytes)) (hb0 : 0 < bytes)
    (ad B : Addr) (n c m c2 : Nat) (xs ys : List Int) (hs : a.eval s = .slice (some ad) n c) (hx : a.eval x = .slice (some B) m c2)
    (HC : Kd.C (Kd.int k) W (some ad) n xs) (HY : Kd.C (Kd.int k) W (some B) m ys) (hfull : c < n + m) (HB : Below base w0 W) (hbase : base ≤ W.heap.size) (hl : (n + m) * bytes ≤ 140737488355328)
    (h : ∀ v1 w1, Kd.R (Kd.int k) e w1 base (fun _ => True) v1 (xs ++ ys) → Below base w0 w1 → W.grownBy w1 none → (∃ b, v1.ownBlock = some b ∧ W.heap.size ≤ b) → wpList P ops Q rest (a.put o.dst v1) w1) :
    wpList P ops Q (o :: rest) a W := by
  obtain ⟨i0, hi, hzz⟩ := Option.map_eq_some_iff.1 hinfo
  simp only [Prod.mk.injEq] at hzz
  obtain ⟨hz0, hz1, hz2⟩ := hzz
  have hlen : n + m ≤ 140737488355328 := Nat.le_trans (Nat.le_mul_of_pos_right _ hb0) hl
  have hxl : xs.length = n := HC.1
  have hyl : ys.length = m := HY.1
  have cells : ∀ {ad' : Addr} {n' : Nat} {zs : List Int}, Kd.C (Kd.int k) W (some ad') n' zs → ∀ j u, (nums k zs)[j]? = some u → W.cell? (ad'.add j) = some u := by
    intro ad' n' zs hz j u hj
    have hzl : zs.length = n' := hz.1
    have hj' : j < zs.length := by have := (List.getElem?_eq_some_iff.1 hj).1; rwa [nums_length] at this
    obtain ⟨ad2, e2, hc2⟩ := Kd.at_int hz (j : Int) (by omega) (by omega)
    cases e2
    rw [Int.toNat_natCast] at hc2
    rw [hc2]
    simp only [nums, List.getElem?_map, List.getElem?_eq_getElem hj', Option.map_some, Option.some.injEq] at hj
    rw [← hj]
    simp [rd, List.getD_eq_getElem?_getD, List.getElem?_eq_getElem hj']
  refine wpList_append_grows W hgd s x t ho e i0 (.int k 0) 1 bytes ht hi hz0 hz1 hz2 rfl (by decide) (some ad) n c (nums k xs) hs (by simp) (by rw [nums_length, hxl]; omega) (fun b hb => by cases hb; exact cells HC) B m c2 (nums k ys) hx (by rw [nums_length, hyl]; omega) (cells HY) (by simp [nums, Value.oneCell']) hfull (by simp only [maxLen]; omega) hl ?_
  intro v' w' hown hg
  have hbl : ∃ b, v'.ownBlock = some b ∧ W.heap.size ≤ b := by
    rcases hown.2 with ⟨_, h0⟩ | ⟨g, cap, cur, rfl, hg1, _⟩
    · omega
    · exact ⟨g, rfl, hg1⟩
  have hown' : w'.ownsRow W.heap.size e 1 v' (xs ++ ys).length (nums k (xs ++ ys)) := by rw [nums_append, List.length_append, hxl, hyl]; exact hown
  exact h v' w' (Kd.R_lower (Kd.R_of_own (enc := Value.int k) hown' (fun _ _ => trivial)) hbase) (HB.grown hg hbase (by simp)) hg hbl
set_option maxHeartbeats 8000000 in
set_option maxRecDepth 100000 in
theorem turnpikeref21_Bytes.put_full (k : Nat) (ad : Addr) (n : Nat) (l0 : List Int) (a1 : Int) (r : List Int) (w0 w : World) (hB : Below w0.heap.size w0 w) (hC0 : Kd.C (Kd.int .u8) w (some ad) n l0) (hn : n < 140737488355328) (h : turnpikeref13_Put.f k l0 a1 4 = some r) :
    Calls Try.prog 25 #[.slice (some ad) n n, .int .u32 a1, .int .i64 4] w fun e w' => ∃ v0_ : Value, e = .returned (v0_) ∧ Kd.R (Kd.int .u8) 5 w' w0.heap.size (fun _ => True) v0_ r ∧ Below w0.heap.size w0 w' := by
  have HC0 := Aside0.mk hC0
  have HN := Aside0.mk hn
  have HB := Aside0.mk hB
  clear hB hC0 hn
  have H : (turnpikeref13_Put.l0 k l0 a1 3) = some r := by unfold turnpikeref13_Put.f at h; rwa [show wrap64 (4 - 1) = 3 from by unfold wrap64; omega] at h
  clear h
  have H' := Aside0.mk H
  clear H
  go_enter Try.func25, Try.ntmps25
  go_wp2
  go_loopg [0, 7] k (fun kq v0 v7 w' => ∃ (x0_1 : List Int) (x7_1 : Int), v7 = .int .i64 x7_1 ∧ Aside0 (turnpikeref13_Put.l0 kq x0_1 a1 x7_1 = some r) ∧ Aside0 (kq ≤ k) ∧ Aside0 ((v0 = .slice (some ad) n n ∧ Kd.C (Kd.int .u8) w' (some ad) n x0_1 ∧ 0 ≤ x7_1) ∨ Kd.R (Kd.int .u8) 5 w' w0.heap.size (fun _ => True) v0 x0_1) ∧ Aside0 (Below w0.heap.size w0 w'))
  case atStart => exact ⟨l0, 3, rfl, H', ⟨Nat.le_refl _⟩, ⟨.inl ⟨rfl, HC0.out, by omega⟩⟩, HB⟩
  case round =>
    clear H' HB HC0
    obtain ⟨x0_1, x7_1, rfl, HA, HK1, HO_0, HB⟩ := hrel
    cases gk with
    | zero => exact absurd HA.out (by simp [turnpikeref13_Put.l0])
    | succ k1 =>
      have H := HA.out
      clear HA
      simp only [turnpikeref13_Put.l0] at H
      by_cases c4 : x7_1 ≥ 0
      · rw [if_pos c4] at H
        have c4b0 : decide (0 ≤ x7_1) = true := decide_eq_true c4
        clear c4
        obtain ⟨ji5, hji5⟩ : ∃ j_ : Int, (wrap64 (8 * x7_1)) = j_ := ⟨_, rfl⟩
        replace H : (if 0 ≤ (ji5) then (if x0_1.length < 140737488355328 then (turnpikeref13_Put.l0 k1 (x0_1 ++ [(shr .u32 a1 (ji5)) % 256]) a1 (wrap64 (x7_1 - 1))) else (none)) else (none)) = some r := by first | (rw [hji5] at H; exact H) | (simp only [hji5] at H ⊢; exact H)
        have hji5w : (IntKind.i64.wrap (8 * x7_1)) = ji5 := (i64_w _).trans hji5
        by_cases c6 : 0 ≤ (ji5)
        · rw [if_pos c6] at H
          have c6b0 := eq_true c6
          have c6b1 : decide (0 ≤ (ji5)) = true := decide_eq_true c6
          clear c6
          obtain ⟨ji7, hji7⟩ : ∃ j_ : Int, (shr .u32 a1 (ji5)) = j_ := ⟨_, rfl⟩
          replace H : (if x0_1.length < 140737488355328 then (turnpikeref13_Put.l0 k1 (x0_1 ++ [(ji7) % 256]) a1 (wrap64 (x7_1 - 1))) else (none)) = some r := by first | (rw [hji7] at H; exact H) | (simp only [hji7] at H ⊢; exact H)
          have hji7_ : (a1 / 2 ^ min (ji5).toNat 32) = ji7 := hji7
          have hji7z : (ji5) ≤ 32 → (a1 / 2 ^ (ji5).toNat) = ji7 := shr_small hji7
          by_cases c8 : x0_1.length < 140737488355328
          · rw [if_pos c8] at H
            have LMc8 := Aside0.mk c8
            clear c8
            obtain ⟨y319, hy319⟩ : ∃ y_ : List Int, y_ = (x0_1 ++ [(ji7) % 256]) := ⟨_, rfl⟩
            replace H : (turnpikeref13_Put.l0 k1 y319 a1 (wrap64 (x7_1 - 1))) = some r := by first | (rw [hy319]; with_reducible exact H) | (rw [hy319]; exact H) | exact H
            have Ny319 := Aside0.mk hy319
            clear hy319
            have H' := Aside0.mk H
            clear H
            rcases HO_0.out with ⟨rfl, hcc, _⟩ | hR
            · have HCC := Aside0.mk hcc
              have hl1 : Kd.C (Kd.int .u8) (wr.alloc (.cells #[.int .u8 (ji7 % 256)] 5)) (some ⟨wr.heap.size, 0, none⟩) 1 [ji7 % 256] := C_lit (heap_alloc_new wr _) .u8 [ji7 % 256] rfl (by simp)
              have HL1 := Aside0.mk hl1
              clear hcc hl1 HO_0
              go_wp2_with (((with_reducible refine gate_builtin (b := .append) (xs := #[.tmp 14, .tmp 20]) rfl ?_); at_builtin; (refine turnpikeref21_Bytes.grows (w0 := w0) w0.heap.size rfl (.tmp 14) (.tmp 20) 22 5 .u8 1 rfl Try.underlying22 info5 (by decide) ad ⟨wr.heap.size, 0, none⟩ n n 1 1 x0_1 [ji7 % 256] rfl rfl ?aO ?aR ?aU ?aB ?aS ?aL ?_); (case aR => exact HL1.out); (case aU => omega); (case aB => exact below_alloc HB.out _); (case aO => exact Kd.C_alloc HCC.out _); (case aS => exact below_size (below_alloc HB.out _)); (case aL => have := HN.out; omega); intro v' w5 ho5 hb5 hg5 hat5; rw [← Ny319.out] at ho5; have HO5 := Aside0.mk ho5; have HB5 := Aside0.mk hb5; clear ho5 hb5 hg5 hat5))
              go_roundg k1
              case measure => have := HK1.out; omega
              case rel => exact ⟨y319, _, rfl, H', ⟨by have := HK1.out; omega⟩, ⟨.inr HO5.out⟩, HB5⟩
            · have HR := Aside0.mk hR
              clear hR HO_0
              go_wp2_with (((with_reducible refine gate_builtin (b := .append) (xs := #[.tmp 14, .tmp 20]) rfl ?_); at_builtin; refine Kd.R_append (Kd.int .u8) (w0 := w0) w0.heap.size rfl (.tmp 14) (.tmp 20) 22 5 (.int .u8 0) 1 rfl Try.underlying22 info5 rfl (by decide) (by omega) u0 x0_1 ((ji7) % 256) [.int .u8 ((ji7) % 256)] (fun _ => True) (fun _ => False) rfl rfl ?aP (fun _ hk => hk.elim) ?aF ?aO ?aB ?aS ?aL ?_; (case aP => exact rfl); (case aB => exact HB.out); (case aF => exact (fun _ _ => trivial)); (case aO => exact HR.out); (case aS => exact (below_size HB.out)); (case aL => have := LMc8.out; omega); intro v320 w9 ho hb hg hat; rw [← Ny319.out] at ho; have HO5 := Aside0.mk ho; have HB5 := Aside0.mk hb; clear ho hb hg hat))
              go_roundg k1
              case measure => have := HK1.out; omega
              case rel => exact ⟨y319, _, rfl, H', ⟨by have := HK1.out; omega⟩, ⟨.inr HO5.out⟩, HB5⟩
          · rw [if_neg c8] at H
            exact absurd H (by simp)
        · rw [if_neg c6] at H
          exact absurd H (by simp)
      · rw [if_neg c4] at H
        have c4b0 : decide (0 ≤ x7_1) = false := decide_eq_false c4
        obtain rfl := Option.some.inj H
        rcases HO_0.out with ⟨_, _, h0⟩ | hR
        · omega
        · have HR := Aside0.mk hR
          clear c4 hR HO_0
          go_wp2
          go_ret
          exact ⟨_, rfl, HR.out, HB.out⟩
set_option maxHeartbeats 8000000 in
set_option maxRecDepth 100000 in
theorem turnpikeref21_Bytes.calls (k : Nat) (A0 : Option Addr) (c0 : Nat) (l0 : List Int) (A1 : Option Addr) (c1 : Nat) (l1 : List (S33)) (r1 : List Int) (r2 : Int) (w : World) (hr0 : Kd.C (Kd.int .u8) w A0 l0.length l0) (hc0 : l0.length ≤ c0) (hr1 : Kd.C k33 w A1 l1.length l1) (hc1 : l1.length ≤ c1) (h : turnpikeref21_Bytes.f k l0 l1 = some (r1, r2)) :
    Calls Try.prog 22 #[.slice A0 l0.length c0, .slice A1 l1.length c1] w fun e w' => ∃ v0_ : Value, e = .returned (.tuple #[v0_, .int .i64 r2]) ∧ Kd.R (Kd.int .u8) 5 w' w.heap.size (fun _ => True) v0_ r1 ∧ Below w.heap.size w w' := by
  have HR0 := Aside0.mk hr0
  have HC0 := Aside0.mk hc0
  clear hr0 hc0
  have HR1 := Aside0.mk hr1
  have HC1 := Aside0.mk hc1
  clear hr1 hc1
  have HB := Aside0.mk (Below.refl w.heap.size w)
  have H : ((turnpikeref21_Fit.f k (l0.length : Int) l1).bind fun t324 => (if t324 = true then ((turnpikeref13_Put.f k (([84, 80, 68, 49] : List Int)) (((l0.length : Int)) % 4294967296) 4).bind fun t328 => ((turnpikeref13_Sum.f k l0).bind fun t331 => ((turnpikeref13_Put.f k t328 t331 4).bind fun t332 => ((turnpikeref13_Put.f k t332 (((l1.length : Int)) % 4294967296) 4).bind fun t335 => (turnpikeref21_Bytes.l0 k l1 t335 0))))) else (some (([] : List Int), 33)))) = some (r1, r2) := h
  clear h
  replace H := Option.bind_eq_some_iff.mp H
  obtain ⟨t324, A30, H⟩ := H
  replace H : (if t324 = true then ((turnpikeref13_Put.f k (([84, 80, 68, 49] : List Int)) (((l0.length : Int)) % 4294967296) 4).bind fun t328 => ((turnpikeref13_Sum.f k l0).bind fun t331 => ((turnpikeref13_Put.f k t328 t331 4).bind fun t332 => ((turnpikeref13_Put.f k t332 (((l1.length : Int)) % 4294967296) 4).bind fun t335 => (turnpikeref21_Bytes.l0 k l1 t335 0))))) else (some (([] : List Int), 33))) = some (r1, r2) := H
  have A3 := Aside0.mk A30
  clear A30
  by_cases c4 : t324 = true
  · subst c4
    have H1 : ((turnpikeref13_Put.f k (([84, 80, 68, 49] : List Int)) (((l0.length : Int)) % 4294967296) 4).bind fun t328 => ((turnpikeref13_Sum.f k l0).bind fun t331 => ((turnpikeref13_Put.f k t328 t331 4).bind fun t332 => ((turnpikeref13_Put.f k t332 (((l1.length : Int)) % 4294967296) 4).bind fun t335 => (turnpikeref21_Bytes.l0 k l1 t335 0))))) = some (r1, r2) := by rw [if_pos rfl] at H; exact H
    clear H
    have H := H1
    clear H1
    obtain ⟨y325, hy325⟩ : ∃ y_ : List Int, y_ = (([84, 80, 68, 49] : List Int)) := ⟨_, rfl⟩
    replace H : ((turnpikeref13_Put.f k y325 (((l0.length : Int)) % 4294967296) 4).bind fun t328 => ((turnpikeref13_Sum.f k l0).bind fun t331 => ((turnpikeref13_Put.f k t328 t331 4).bind fun t332 => ((turnpikeref13_Put.f k t332 (((l1.length : Int)) % 4294967296) 4).bind fun t335 => (turnpikeref21_Bytes.l0 k l1 t335 0))))) = some (r1, r2) := by first | (rw [hy325]; with_reducible exact H) | (have H2_ := (Option.bind_some _ _).symm.trans H; rw [hy325]; with_reducible exact H2_) | (have H2_ := (Option.bind_some _ _).symm.trans H; with_reducible exact H2_) | with_reducible exact H | (rw [hy325]; exact H) | exact H
    have Ny325 := Aside0.mk hy325
    clear hy325
    replace H := Option.bind_eq_some_iff.mp H
    obtain ⟨t328, A50, H⟩ := H
    replace H : ((turnpikeref13_Sum.f k l0).bind fun t331 => ((turnpikeref13_Put.f k t328 t331 4).bind fun t332 => ((turnpikeref13_Put.f k t332 (((l1.length : Int)) % 4294967296) 4).bind fun t335 => (turnpikeref21_Bytes.l0 k l1 t335 0)))) = some (r1, r2) := H
    have A5 := Aside0.mk A50
    clear A50
    replace H := Option.bind_eq_some_iff.mp H
    obtain ⟨t331, A60, H⟩ := H
    replace H : ((turnpikeref13_Put.f k t328 t331 4).bind fun t332 => ((turnpikeref13_Put.f k t332 (((l1.length : Int)) % 4294967296) 4).bind fun t335 => (turnpikeref21_Bytes.l0 k l1 t335 0))) = some (r1, r2) := H
    have A6 := Aside0.mk A60
    clear A60
    replace H := Option.bind_eq_some_iff.mp H
    obtain ⟨t332, A70, H⟩ := H
    replace H : ((turnpikeref13_Put.f k t332 (((l1.length : Int)) % 4294967296) 4).bind fun t335 => (turnpikeref21_Bytes.l0 k l1 t335 0)) = some (r1, r2) := H
    have A7 := Aside0.mk A70
    clear A70
    replace H := Option.bind_eq_some_iff.mp H
    obtain ⟨t335, A80, H⟩ := H
    replace H : (turnpikeref21_Bytes.l0 k l1 t335 0) = some (r1, r2) := H
    have A8 := Aside0.mk A80
    clear A80
    have H' := Aside0.mk H
    clear H
    have kc := fun (w : World) (C : Array Value) (n c : Nat) => Lib.run_convert_bytes_const (P := Try.prog) w 22 5 C n c Try.underlying22 Try.underlying5
    have kc2 : ∀ (w : World) (m : Nat) (C : Array Value) (n c : Nat), (convert 22 22 (.slice (some ⟨w.heap.size, 0, none⟩) n c)).run Try.prog ((w.drewN m).alloc (.cells C 5)) = .ok (.slice (some ⟨w.heap.size, 0, none⟩) n c) ((w.drewN m).alloc (.cells C 5 (C.size, C.size + 1))) := fun w m C n c => kc (w.drewN m) C n c
    go_enter Try.func22, Try.ntmps22
    go_wp2_with fail
    refine (turnpikeref21_Fit.calls k _ _ _ l1 true _ HR1.out HC1.out A3.out).mono ?_
    rintro e w' ⟨rfl, ⟨nd, rfl⟩⟩
    go_wp2_with fail
    clear kc kc2
    have hC4 := C_lit (heap_alloc_new (w.drewN nd) (.cells #[.int .u8 84, .int .u8 80, .int .u8 68, .int .u8 49] 5 (4, 5))) .u8 [84, 80, 68, 49] rfl (by decide)
    have hB4 := below_alloc (pw_below_drewN HB.out nd) (.cells #[.int .u8 84, .int .u8 80, .int .u8 68, .int .u8 49] 5 (4, 5))
    rw [Ny325.out] at A5
    refine (turnpikeref21_Bytes.put_full k ⟨w.heap.size, 0, none⟩ 4 [84, 80, 68, 49] _ t328 w _ hB4 hC4 (by decide) A5.out).mono ?_
    rintro e w5 ⟨v5, rfl, ho5, hb5⟩
    obtain ⟨Ao5, co5, eo5⟩ := Kd.R_slice ho5
    subst eo5
    clear HB hC4 hB4
    have HB := Aside0.mk hb5
    have HO := Aside0.mk ho5
    clear hb5 ho5
    go_wp2_with fail
    refine (turnpikeref13_Sum.calls k _ _ l0 t331 _ (Kd.C_below HR0.out HB.out) HC0.out A6.out).mono ?_
    rintro e w' ⟨rfl, ⟨nd2, rfl⟩⟩
    go_wp2_with fail
    refine (turnpikeref13_Put.calls k (fun k_ => some k_ = (.slice Ao5 t328.length co5 : Value).ownBlock) (.slice Ao5 t328.length co5) t328 t331 4 t332 w _ (pw_below_drewN HB.out nd2) (Kd.R_tight rfl (Kd.R_drewN HO.out nd2)) A7.out).mono ?_
    rintro e w6 ⟨v6, rfl, ho6, hb6, _⟩
    replace ho6 := Kd.R_mono (ok' := fun _ => True) ho6 (fun _ _ => trivial)
    obtain ⟨Ao6, co6, eo6⟩ := Kd.R_slice ho6
    subst eo6
    clear HB HO
    have HB := Aside0.mk hb6
    have HO := Aside0.mk ho6
    clear hb6 ho6
    go_wp2_with fail
    refine (turnpikeref13_Put.calls k (fun k_ => some k_ = (.slice Ao6 t332.length co6 : Value).ownBlock) (.slice Ao6 t332.length co6) t332 (((l1.length : Int)) % 4294967296) 4 t335 w _ HB.out (Kd.R_tight rfl HO.out) A8.out).mono ?_
    rintro e w7 ⟨v7, rfl, ho7, hb7, _⟩
    replace ho7 := Kd.R_mono (ok' := fun _ => True) ho7 (fun _ _ => trivial)
    obtain ⟨Ao7, co7, eo7⟩ := Kd.R_slice ho7
    subst eo7
    clear HB HO
    have HB := Aside0.mk hb7
    have HO337 := Aside0.mk ho7
    clear hb7 ho7
    go_wp2_with fail
    go_loopg [6, 7] k (fun kq v6 v7 w' => ∃ (x6_1 : List Int) (x7_1 : Int), v7 = .int .i64 x7_1 ∧ Aside0 (turnpikeref21_Bytes.l0 kq l1 x6_1 x7_1 = some (r1, r2)) ∧ Aside0 (kq ≤ k) ∧ Aside0 (Kd.R (Kd.int .u8) 5 w' w.heap.size (fun _ => True) v6 x6_1) ∧ Aside0 (Below w.heap.size w w'))
    case atStart => exact ⟨(t335), (0), (by first | rfl | (simp; done) | (simp [*]; done)), H', ⟨Nat.le_refl _⟩, ⟨by (with_reducible repeat (first | apply Kd.R_alloc | apply Kd.R_drewN | apply Kd.R_drew)); exact HO337.out⟩, ⟨by repeat (first | (with_reducible first | exact HB.out | apply below_alloc | apply pw_below_drewN | apply below_drew1) | exact HB.out)⟩⟩
    case round =>
      clear H'
      try clear c1
      try clear c2
      try clear p2
      try clear c4
      obtain ⟨x6_1, x7_1, rfl, HA, HK1, HO_6, HB⟩ := hrel
      cases gk with
      | zero => exact absurd HA.out (by simp [turnpikeref21_Bytes.l0])
      | succ k1 =>
        have H := HA.out
        clear HA
        simp only [turnpikeref21_Bytes.l0] at H
        by_cases c17 : x7_1 < (l1.length : Int)
        · rw [if_pos c17] at H
          have c17b0 : decide (x7_1 < (l1.length : Int)) = true := decide_eq_true c17
          clear c17
          by_cases c18 : 0 ≤ x7_1
          · rw [if_pos c18] at H
            have c18b0 : decide (0 ≤ x7_1) = true := decide_eq_true c18
            clear c18
            replace H := Option.bind_eq_some_iff.mp H
            obtain ⟨t339, A190, H⟩ := H
            replace H : ((turnpikeref13_Put.f k1 t339 (((rd_T33 l1 x7_1).f1) % 4294967296) 4).bind fun t343 => ((turnpikeref13_Put.f k1 t343 (((((rd_T33 l1 x7_1).f2).length : Int)) % 4294967296) 4).bind fun t347 => (if t347.length + ((rd_T33 l1 x7_1).f2).length < 140737488355328 then (turnpikeref21_Bytes.l0 k1 l1 (t347 ++ ((rd_T33 l1 x7_1).f2)) (wrap64 (x7_1 + 1))) else (none)))) = some (r1, r2) := H
            have A19 := Aside0.mk A190
            clear A190
            replace H := Option.bind_eq_some_iff.mp H
            obtain ⟨t343, A200, H⟩ := H
            replace H : ((turnpikeref13_Put.f k1 t343 (((((rd_T33 l1 x7_1).f2).length : Int)) % 4294967296) 4).bind fun t347 => (if t347.length + ((rd_T33 l1 x7_1).f2).length < 140737488355328 then (turnpikeref21_Bytes.l0 k1 l1 (t347 ++ ((rd_T33 l1 x7_1).f2)) (wrap64 (x7_1 + 1))) else (none))) = some (r1, r2) := H
            have A20 := Aside0.mk A200
            clear A200
            replace H := Option.bind_eq_some_iff.mp H
            obtain ⟨t347, A210, H⟩ := H
            replace H : (if t347.length + ((rd_T33 l1 x7_1).f2).length < 140737488355328 then (turnpikeref21_Bytes.l0 k1 l1 (t347 ++ ((rd_T33 l1 x7_1).f2)) (wrap64 (x7_1 + 1))) else (none)) = some (r1, r2) := H
            have A21 := Aside0.mk A210
            clear A210
            by_cases c22 : t347.length + ((rd_T33 l1 x7_1).f2).length < 140737488355328
            · rw [if_pos c22] at H
              have LMc22 := Aside0.mk c22
              clear c22
              obtain ⟨y351, hy351⟩ : ∃ y_ : List Int, y_ = (t347 ++ ((rd_T33 l1 x7_1).f2)) := ⟨_, rfl⟩
              replace H : (turnpikeref21_Bytes.l0 k1 l1 y351 (wrap64 (x7_1 + 1))) = some (r1, r2) := by first | (rw [hy351]; with_reducible exact H) | (have H2_ := (Option.bind_some _ _).symm.trans H; rw [hy351]; with_reducible exact H2_) | (have H2_ := (Option.bind_some _ _).symm.trans H; with_reducible exact H2_) | with_reducible exact H | (rw [hy351]; exact H) | exact H
              have Ny351 := Aside0.mk hy351
              clear hy351
              have H' := Aside0.mk H
              clear H
              have p338 : 0 ≤ (x7_1 : Int) := of_decide_eq_true (by first | (with_reducible assumption) | assumption)
              have q338 : x7_1 < (l1.length : Int) := of_decide_eq_true (by first | (with_reducible assumption) | assumption)
              obtain ⟨ad338, A338_2, c338_2, e338, hx338_0, hx338_1, hx338_2, hl338_2, hi338_2⟩ := at_T33 HR1.out x7_1 p338 q338
              cases e338
              replace hx338_0 := (HB.out.cell (World.block_lt_of_cell? w _ hx338_0)).trans hx338_0
              replace hx338_1 := (HB.out.cell (World.block_lt_of_cell? w _ hx338_1)).trans hx338_1
              replace hx338_2 := (HB.out.cell (World.block_lt_of_cell? w _ hx338_2)).trans hx338_2
              have HR338_2 := Aside0.mk hi338_2
              have HC338_2 := Aside0.mk hl338_2
              clear hi338_2 hl338_2
              replace p338 := eq_true p338
              replace q338 := eq_true q338
              obtain ⟨Ao23, co23, eo23⟩ := Kd.R_slice HO_6.out
              subst eo23
              go_wp2_with (first | ((with_reducible refine gate_callee (f := 25) rfl ?_); refine goesL_ (some 42) rfl rfl Try.func25 (by kernel_rfl) rfl #[.slice Ao23 x6_1.length co23, .int .u32 (((rd_T33 l1 x7_1).f0) % 4294967296), .int .i64 4] rfl (by (try simp only [List.map_toArray, List.map_cons, List.map_nil]); first | done | rfl | (simp only [List.length_drop, List.length_take]; rfl)) ?_; (with_reducible refine (turnpikeref13_Put.calls k1 (fun k_ => some k_ = (.slice Ao23 x6_1.length co23 : Value).ownBlock) (.slice Ao23 x6_1.length co23) x6_1 (((rd_T33 l1 x7_1).f0) % 4294967296) 4 t339 w _ ?side1 ?side2 A19.out).mono ?_); (case side1 => repeat (first | (with_reducible first | exact HB.out | apply below_alloc | apply pw_below_drewN | apply below_drew1) | exact HB.out)); (case side2 => exact Kd.R_tight rfl HO_6.out); rintro e w24 ⟨v340, rfl, ho0, hb, hkp⟩; refine ⟨_, rfl, ?_⟩; have n0_ := Aside0.mk (Kd.R_mono (ok' := fun k_ => True) ho0 (fun k_ hk_ => trivial)); have n1_ := Aside0.mk (hb); clear HB; clear HO_6; have HO341 := n0_; have HB := n1_; clear n0_ n1_; (try clear hb); (try clear hkp); (try clear ho0); have p342 : 0 ≤ (x7_1 : Int) := of_decide_eq_true (by first | (with_reducible assumption) | assumption); have q342 : x7_1 < (l1.length : Int) := of_decide_eq_true (by first | (with_reducible assumption) | assumption); obtain ⟨ad342, A342_2, c342_2, e342, hx342_0, hx342_1, hx342_2, hl342_2, hi342_2⟩ := at_T33 HR1.out x7_1 p342 q342; obtain rfl : ad338 = ad342 := (by injection e342); replace hx342_0 := (HB.out.cell (World.block_lt_of_cell? w _ hx342_0)).trans hx342_0; replace hx342_1 := (HB.out.cell (World.block_lt_of_cell? w _ hx342_1)).trans hx342_1; replace hx342_2 := (HB.out.cell (World.block_lt_of_cell? w _ hx342_2)).trans hx342_2; have HR342_2 := Aside0.mk hi342_2; have HC342_2 := Aside0.mk hl342_2; clear hi342_2 hl342_2; replace p342 := eq_true p342; replace q342 := eq_true q342; obtain ⟨Ao25, co25, eo25⟩ := Kd.R_slice HO341.out; subst eo25) | ((with_reducible refine gate_callee (f := 25) rfl ?_); refine goesL_ (some 50) rfl rfl Try.func25 (by kernel_rfl) rfl #[.slice Ao25 t339.length co25, .int .u32 (((rd_T33 l1 x7_1).f1) % 4294967296), .int .i64 4] rfl (by (try simp only [List.map_toArray, List.map_cons, List.map_nil]); first | done | rfl | (simp only [List.length_drop, List.length_take]; rfl)) ?_; (with_reducible refine (turnpikeref13_Put.calls k1 (fun k_ => some k_ = (.slice Ao25 t339.length co25 : Value).ownBlock) (.slice Ao25 t339.length co25) t339 (((rd_T33 l1 x7_1).f1) % 4294967296) 4 t343 w _ ?side1 ?side2 A20.out).mono ?_); (case side1 => repeat (first | (with_reducible first | exact HB.out | apply below_alloc | apply pw_below_drewN | apply below_drew1) | exact HB.out)); (case side2 => exact Kd.R_tight rfl HO341.out); rintro e w26 ⟨v344, rfl, ho0, hb, hkp⟩; refine ⟨_, rfl, ?_⟩; have n0_ := Aside0.mk (Kd.R_mono (ok' := fun k_ => True) ho0 (fun k_ hk_ => trivial)); have n1_ := Aside0.mk (hb); clear HB; clear HO341; have HO345 := n0_; have HB := n1_; clear n0_ n1_; (try clear hb); (try clear hkp); (try clear ho0); have p346 : 0 ≤ (x7_1 : Int) := of_decide_eq_true (by first | (with_reducible assumption) | assumption); have q346 : x7_1 < (l1.length : Int) := of_decide_eq_true (by first | (with_reducible assumption) | assumption); obtain ⟨ad346, A346_2, c346_2, e346, hx346_0, hx346_1, hx346_2, hl346_2, hi346_2⟩ := at_T33 HR1.out x7_1 p346 q346; obtain rfl : ad338 = ad346 := (by injection e346); replace hx346_0 := (HB.out.cell (World.block_lt_of_cell? w _ hx346_0)).trans hx346_0; replace hx346_1 := (HB.out.cell (World.block_lt_of_cell? w _ hx346_1)).trans hx346_1; replace hx346_2 := (HB.out.cell (World.block_lt_of_cell? w _ hx346_2)).trans hx346_2; have HR346_2 := Aside0.mk hi346_2; have HC346_2 := Aside0.mk hl346_2; clear hi346_2 hl346_2; replace p346 := eq_true p346; replace q346 := eq_true q346; obtain ⟨Ao27, co27, eo27⟩ := Kd.R_slice HO345.out; subst eo27) | ((with_reducible refine gate_callee (f := 25) rfl ?_); refine goesL_ (some 59) rfl rfl Try.func25 (by kernel_rfl) rfl #[.slice Ao27 t343.length co27, .int .u32 (((((rd_T33 l1 x7_1).f2).length : Int)) % 4294967296), .int .i64 4] rfl (by (try simp only [List.map_toArray, List.map_cons, List.map_nil]); first | done | rfl | (simp only [List.length_drop, List.length_take]; rfl)) ?_; (with_reducible refine (turnpikeref13_Put.calls k1 (fun k_ => some k_ = (.slice Ao27 t343.length co27 : Value).ownBlock) (.slice Ao27 t343.length co27) t343 (((((rd_T33 l1 x7_1).f2).length : Int)) % 4294967296) 4 t347 w _ ?side1 ?side2 A21.out).mono ?_); (case side1 => repeat (first | (with_reducible first | exact HB.out | apply below_alloc | apply pw_below_drewN | apply below_drew1) | exact HB.out)); (case side2 => exact Kd.R_tight rfl HO345.out); rintro e w28 ⟨v348, rfl, ho0, hb, hkp⟩; refine ⟨_, rfl, ?_⟩; have n0_ := Aside0.mk (Kd.R_mono (ok' := fun k_ => True) ho0 (fun k_ hk_ => trivial)); have n1_ := Aside0.mk (hb); clear HB; clear HO345; have HO349 := n0_; have HB := n1_; clear n0_ n1_; (try clear hb); (try clear hkp); (try clear ho0); have p350 : 0 ≤ (x7_1 : Int) := of_decide_eq_true (by first | (with_reducible assumption) | assumption); have q350 : x7_1 < (l1.length : Int) := of_decide_eq_true (by first | (with_reducible assumption) | assumption); obtain ⟨ad350, A350_2, c350_2, e350, hx350_0, hx350_1, hx350_2, hl350_2, hi350_2⟩ := at_T33 HR1.out x7_1 p350 q350; obtain rfl : ad338 = ad350 := (by injection e350); replace hx350_0 := (HB.out.cell (World.block_lt_of_cell? w _ hx350_0)).trans hx350_0; replace hx350_1 := (HB.out.cell (World.block_lt_of_cell? w _ hx350_1)).trans hx350_1; replace hx350_2 := (HB.out.cell (World.block_lt_of_cell? w _ hx350_2)).trans hx350_2; have HR350_2 := Aside0.mk hi350_2; have HC350_2 := Aside0.mk hl350_2; clear hi350_2 hl350_2; replace p350 := eq_true p350; replace q350 := eq_true q350) | ((with_reducible refine gate_builtin (b := .append) (xs := #[.tmp 60, .tmp 65]) rfl ?_); at_builtin; refine Kd.R_append_rows (Kd.int .u8) (w0 := w) w.heap.size rfl (.tmp 60) (.tmp 65) 22 5 (.int .u8 0) 1 rfl Try.underlying22 info5 rfl (by decide) (by omega) v348 t347 ((rd_T33 l1 x7_1).f2) _ _ _ (fun _ => True) (fun _ => False) rfl rfl ?aO ?aR (fun _ _ h => h) (fun _ h => h.elim) ?aF ?aB ?aS ?aL ?_; (case aR => repeat (first | exact (Kd.C_below HR350_2.out HB.out) | (with_reducible refine Kd.C_alloc ?_ _) | (with_reducible refine Kd.C_drewN ?_ _) | (with_reducible refine Kd.C_drew ?_))); (case aB => exact (by repeat (first | (with_reducible first | exact HB.out | apply below_alloc | apply pw_below_drewN | apply below_drew1) | exact HB.out))); (case aF => exact (fun _ _ => trivial)); (case aO => exact (by (with_reducible repeat (first | apply Kd.R_alloc | apply Kd.R_drewN | apply Kd.R_drew)); exact HO349.out)); (case aS => exact (below_size (by repeat (first | (with_reducible first | exact HB.out | apply below_alloc | apply pw_below_drewN | apply below_drew1) | exact HB.out)))); (case aL => have := LMc22.out; omega); intro v352 w29 ho hb hg hat; rw [← Ny351.out] at ho; have n0_ := Aside0.mk (hb); have n1_ := Aside0.mk (ho); clear HB; clear HO349; have HB := n0_; have HO353 := n1_; clear n0_ n1_; clear ho hb hg hat))
              go_roundg k1
              case measure => have := HK1.out; omega
              case rel => exact ⟨(y351), (wrap64 (x7_1 + 1)), (by first | rfl | (simp; done) | (simp [*]; done)), H', ⟨by have := HK1.out; omega⟩, ⟨by (with_reducible repeat (first | apply Kd.R_alloc | apply Kd.R_drewN | apply Kd.R_drew)); exact HO353.out⟩, ⟨by repeat (first | (with_reducible first | exact HB.out | apply below_alloc | apply pw_below_drewN | apply below_drew1) | exact HB.out)⟩⟩
            · rw [if_neg c22] at H
              exact absurd H (by simp)
          · rw [if_neg c18] at H
            exact absurd H (by simp)
        · rw [if_neg c17] at H
          have c17b0 : decide (x7_1 < (l1.length : Int)) = false := decide_eq_false c17
          clear c17
          replace H := Option.bind_eq_some_iff.mp H
          obtain ⟨t354, A300, H⟩ := H
          replace H : ((turnpikeref13_Put.f k1 x6_1 t354 4).bind fun t355 => (some (t355, 0))) = some (r1, r2) := H
          have A30 := Aside0.mk A300
          clear A300
          replace H := Option.bind_eq_some_iff.mp H
          obtain ⟨t355, A310, H⟩ := H
          replace H : (some (t355, 0)) = some (r1, r2) := H
          have A31 := Aside0.mk A310
          clear A310
          simp only [Option.some.injEq, Prod.mk.injEq] at H
          obtain ⟨rfl, rfl⟩ := H
          obtain ⟨Ao32, co32, eo32⟩ := Kd.R_slice HO_6.out
          subst eo32
          go_wp2_with (first | ((with_reducible refine gate_callee (f := 26) rfl ?_); refine goesL_ (some 69) rfl rfl Try.func26 (by kernel_rfl) rfl #[.slice Ao32 x6_1.length co32] rfl (by (try simp only [List.map_toArray, List.map_cons, List.map_nil]); first | done | rfl | (simp only [List.length_drop, List.length_take]; rfl)) ?_; (with_reducible refine (turnpikeref13_Sum.calls k1 _ _ x6_1 t354 _ ?side1 ?side2 A30.out).mono ?_); (case side1 => repeat (first | exact (Kd.R_reads' HO_6.out).2.2 | (with_reducible refine Kd.C_alloc ?_ _) | (with_reducible refine Kd.C_drewN ?_ _) | (with_reducible refine Kd.C_drew ?_))); (case side2 => exact (Kd.R_reads' HO_6.out).2.1); rintro e w' ⟨rfl, ⟨nd, rfl⟩⟩; refine ⟨_, rfl, ?_⟩) | ((with_reducible refine gate_callee (f := 25) rfl ?_); refine goesL_ (some 70) rfl rfl Try.func25 (by kernel_rfl) rfl #[.slice Ao32 x6_1.length co32, .int .u32 t354, .int .i64 4] rfl (by (try simp only [List.map_toArray, List.map_cons, List.map_nil]); first | done | rfl | (simp only [List.length_drop, List.length_take]; rfl)) ?_; (with_reducible refine (turnpikeref13_Put.calls k1 (fun k_ => some k_ = (.slice Ao32 x6_1.length co32 : Value).ownBlock) (.slice Ao32 x6_1.length co32) x6_1 t354 4 t355 w _ ?side1 ?side2 A31.out).mono ?_); (case side1 => repeat (first | (with_reducible first | exact HB.out | apply below_alloc | apply pw_below_drewN | apply below_drew1) | exact HB.out)); (case side2 => exact Kd.R_tight rfl HO_6.out); rintro e w33 ⟨v356, rfl, ho0, hb, hkp⟩; refine ⟨_, rfl, ?_⟩; have n0_ := Aside0.mk (Kd.R_mono (ok' := fun k_ => True) ho0 (fun k_ hk_ => trivial)); have n1_ := Aside0.mk (hb); clear HB; clear HO_6; have HO357 := n0_; have HB := n1_; clear n0_ n1_; (try clear hb); (try clear hkp); (try clear ho0)))
          go_ret2
          exact ⟨_, by first | rfl | (simp [errW_none, errW_some] <;> rfl) | (simp [*, errW_none, errW_some] <;> rfl), by (with_reducible repeat (first | apply Kd.R_alloc | apply Kd.R_drewN | apply Kd.R_drew)); exact HO357.out, by repeat (first | (with_reducible first | exact HB.out | apply below_alloc | apply pw_below_drewN | apply below_drew1) | exact HB.out)⟩
  · replace c4 := Bool.eq_false_iff.mpr c4
    subst c4
    have H1 : (some (([] : List Int), 33)) = some (r1, r2) := by rw [if_neg (show ¬ (false = true) by decide)] at H; exact H
    clear H
    have H := H1
    clear H1
    simp only [Option.some.injEq, Prod.mk.injEq] at H
    obtain ⟨rfl, rfl⟩ := H
    go_enter Try.func22, Try.ntmps22
    go_wp2_with (first | ((with_reducible refine gate_callee (f := 27) rfl ?_); refine goesL_ (some 11) rfl rfl Try.func27 (by kernel_rfl) rfl #[.int .i64 (l0.length : Int), .slice A1 l1.length c1] rfl (by (try simp only [List.map_toArray, List.map_cons, List.map_nil]); first | done | rfl | (simp only [List.length_drop, List.length_take]; rfl)) ?_; (with_reducible refine (turnpikeref21_Fit.calls k (l0.length : Int) _ _ l1 false _ ?side1 ?side2 A3.out).mono ?_); (case side1 => repeat (first | exact HR1.out | (with_reducible refine Kd.C_alloc ?_ _) | (with_reducible refine Kd.C_drewN ?_ _) | (with_reducible refine Kd.C_drew ?_))); (case side2 => exact HC1.out); rintro e w' ⟨rfl, ⟨nd, rfl⟩⟩; refine ⟨_, rfl, ?_⟩))
    go_ret2
    exact ⟨_, by first | rfl | (simp [errW_none, errW_some] <;> rfl) | (simp [*, errW_none, errW_some] <;> rfl), by first | exact Kd.R_nil _ _ _ _ _ | exact Kd.N_nil _ _ _ _ _ | exact Kd.V_nil _ _ _ _ _ | exact Kd.Q_nil _ _ _ _ _ | exact Kd.S_nil _ _ _ _ _, by repeat (first | (with_reducible first | exact HB.out | apply below_alloc | apply pw_below_drewN | apply below_drew1) | exact HB.out)⟩


end Go.Proofs.Ytlfkbkobkibemaa.PT
