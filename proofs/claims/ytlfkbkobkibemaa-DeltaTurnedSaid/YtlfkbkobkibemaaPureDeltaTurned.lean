/- For every two rows of bytes: a patch's bytes with one turned, summed again or not, or read for another row, are read as the document reads them; cut off, or for a longer row, they are none. No conditions. -/
import Derived.Test.YtlfkbkobkibemaaAp
import Derived.Test.YtlfkbkobkibemaaPureDeltaReads
import Derived.Test.YtlfkbkobkibemaaDTurn
set_option linter.unusedSimpArgs false
set_option linter.unusedVariables false
namespace Go.Proofs.Ytlfkbkobkibemaa.Tu
open Go.RowKit Go.Proofs.Ytlfkbkobkibemaa.PT Go.Proofs.Ytlfkbkobkibemaa.Pl Go.Proofs.Ytlfkbkobkibemaa.Cr Go.Proofs.Ytlfkbkobkibemaa.Dw Go.Proofs.Ytlfkbkobkibemaa.Df Go.Proofs.Ytlfkbkobkibemaa.Pq Go.Proofs.Ytlfkbkobkibemaa.Pr Go.Proofs.Ytlfkbkobkibemaa.Ap Go.Proofs.YtlfkbkobkibemaaW.PrintWords Go.Proofs.YtlfkbkobkibemaaW.PrintLast
theorem ext_getD {x y : List Int} (hl : x.length = y.length) (h : ∀ j, j < x.length → x.getD j 0 = y.getD j 0) : x = y := by
  refine List.ext_getElem hl (fun j h1 h2 => ?_)
  have := h j h1
  rwa [List.getD_eq_getElem?_getD, List.getD_eq_getElem?_getD, List.getElem?_eq_getElem h1, List.getElem?_eq_getElem h2] at this
theorem lcp_take (a b : List Int) : a.take (lcp a b) = b.take (lcp a b) := by
  have hp := lcp_le a b
  refine ext_getD (by rw [List.length_take, List.length_take]; omega) (fun j hj => ?_)
  rw [List.length_take] at hj
  have := scan_yes (pre a b) (min a.length b.length) 0 j (by omega) (show j < lcp a b by omega)
  simp only [pre, beq_iff_eq] at this
  rw [getD_take _ (by omega), getD_take _ (by omega)]
  exact this
theorem lcs_drop' (a b : List Int) (p : Nat) : a.drop (a.length - lcs a b p) = b.drop (b.length - lcs a b p) := by
  have hp := lcs_le a b p
  refine ext_getD (by rw [List.length_drop, List.length_drop]; omega) (fun j hj => ?_)
  rw [List.length_drop] at hj
  have := scan_yes (suf a b) (min (a.length - p) (b.length - p)) 0 (lcs a b p - 1 - j) (by omega) (show lcs a b p - 1 - j < lcs a b p by omega)
  simp only [suf, beq_iff_eq] at this
  rw [getD_drop, getD_drop, show a.length - lcs a b p + j = a.length - 1 - (lcs a b p - 1 - j) by omega, show b.length - lcs a b p + j = b.length - 1 - (lcs a b p - 1 - j) by omega]
  exact this
theorem diff_fit (a b : List Int) : fitS (a.length : Int) (dspec a b) = true := by
  unfold dspec
  have hp := lcp_le a b
  have ht := lcs_le a b (lcp a b)
  split
  · rfl
  · unfold one
    simp only [fitS]
    rw [if_neg (by omega), if_neg (by omega), if_neg (by omega), if_neg (by omega)]
theorem diff_apply (a b : List Int) : applyL a (dspec a b) = b := by
  unfold dspec
  have hp := lcp_le a b
  have ht := lcs_le a b (lcp a b)
  split
  · rename_i h
    exact h
  · unfold one
    simp only [applyL]
    rw [Int.toNat_natCast, lcp_take, show ((lcp a b : Int) + ((a.length - lcp a b - lcs a b (lcp a b) : Nat) : Int)).toNat = a.length - lcs a b (lcp a b) by omega, lcs_drop']
    have e : b.drop (b.length - lcs a b (lcp a b)) = (b.drop (lcp a b)).drop (b.length - lcp a b - lcs a b (lcp a b)) := by rw [List.drop_drop]; congr 1; omega
    rw [e, List.append_assoc, List.take_append_drop, List.take_append_drop]
theorem diff_bytes (a : List Int) {b : List Int} (hb : Bytes b) : ∀ p ∈ dspec a b, Bytes p.f2 := by
  unfold dspec
  split
  · intro p hp; cases hp
  · unfold one
    intro p hp
    rw [List.mem_singleton.1 hp]
    exact bytes_take (bytes_drop hb _) _
theorem diff_wsum (a b : List Int) : wsum (dspec a b) ≤ b.length := by
  rw [dspec_weight]
  split <;> omega
theorem within_some (a : Int) (n : Int) (h0 : 0 < n) (h1 : n ≤ 140737488351233) : ∃ r : Nat, (r : Int) < n ∧ turnpikelaw21_within.f a n = some (r : Int) := by
  have hlo := Int.lt_tmod_of_pos a h0
  have hhi := Int.tmod_lt_of_pos a h0
  unfold turnpikelaw21_within.f
  rw [if_neg (by omega)]
  split
  · rename_i hn
    rw [w64 (by omega) (by omega)]
    exact ⟨(Int.tmod a n + n).toNat, by omega, by congr 1; omega⟩
  · rename_i hn
    exact ⟨(Int.tmod a n).toNat, by omega, by congr 1; omega⟩
theorem wf_of_bytes {l : List Int} (h : Bytes l) : ∀ x ∈ l, (Lit.int .u8 x).wf = true := by
  intro x hx
  have := h x hx
  simp [Lit.wf, IntKind.min, IntKind.max, IntKind.signed, IntKind.bits]
  omega
theorem enc_split (a : List Int) (d : List P3) : enc a d = [84, 80, 68, 49] ++ (db_be4 (a.length : Int) ++ (db_be4 (toI (crc a)) ++ (db_be4 (d.length : Int) ++ (body d ++ db_be4 (toI (crc (head a d.length ++ body d))))))) := by
  unfold enc head
  simp only [List.append_assoc]
theorem cut_bad {a : List Int} {d : List P3} (hb : Bytes (enc a d)) (h1 : d.length ≤ 1) (hl : a.length + 12 * d.length + wsum d ≤ 100000000) {t : Nat} (ht : t < (enc a d).length) : (parseS a ((enc a d).take t)).2 ≠ 0 := by
  have hel := enc_len a d
  have hlt : ((enc a d).take t).length = t := by rw [List.length_take]; omega
  unfold parseS
  rw [hlt]
  by_cases c : (t : Int) < 20
  · rw [if_pos c]; decide
  rw [if_neg c]
  obtain ⟨p, rfl⟩ : ∃ p, d = [p] := by
    match d, h1 with
    | [], _ => simp [wsum] at hel; omega
    | [p], _ => exact ⟨p, rfl⟩
  have hw : wsum [p] = p.f2.length := by simp [wsum]
  rw [hw] at hel hl
  simp only [List.length_cons, List.length_nil] at hel hl
  have key : patchS ((((enc a [p]).take t).take (t - 4)).drop 12) = ([], 22) := by
    rw [List.take_take, show min (t - 4) t = t - 4 by omega]
    have hyl : (((enc a [p]).take (t - 4)).drop 12).length = t - 16 := by rw [List.length_drop, List.length_take]; omega
    have hyb : Bytes (((enc a [p]).take (t - 4)).drop 12) := bytes_drop (bytes_take hb _) _
    have g0 : dp_get (((enc a [p]).take (t - 4)).drop 12) 0 = 1 := by
      rw [get_val hyb, beV_shift _ _ (by omega) 0 (by omega) (by omega)]
      refine be_at' ([84, 80, 68, 49] ++ db_be4 (a.length : Int) ++ db_be4 (toI (crc a))) (body [p] ++ db_be4 (toI (crc (head a 1 ++ body [p])))) 1 _ (by simp [be4_len]) (by omega) (by omega) _ ?_
      rw [enc_split]
      simp only [List.append_assoc, List.length_cons, List.length_nil]
      rfl
    unfold patchS dp_patches
    rw [if_neg (by omega), g0]
    show Option.getD (dp_loop _ 1 4 []) _ = _
    unfold dp_loop
    by_cases c2 : ((((enc a [p]).take (t - 4)).drop 12).length : Int) < 4 + 12
    · rw [if_pos c2]; rfl
    have g2 : dp_get (((enc a [p]).take (t - 4)).drop 12) (4 + 8) = (p.f2.length : Int) := by
      rw [get_val hyb, beV_shift _ _ (by omega) (4 + 8) (by omega) (by omega)]
      refine be_at' ([84, 80, 68, 49] ++ db_be4 (a.length : Int) ++ db_be4 (toI (crc a)) ++ db_be4 ([p].length : Int) ++ db_be4 p.f0 ++ db_be4 p.f1) (p.f2 ++ db_be4 (toI (crc (head a [p].length ++ body [p])))) (p.f2.length : Int) _ (by simp [be4_len]) (by omega) (by omega) _ ?_
      rw [enc_split]
      simp only [body, List.append_assoc, List.append_nil, List.nil_append]
    rw [if_neg c2, g2, if_pos (by omega)]
    rfl
  split
  · split
    · split
      · split
        · rw [key]
          unfold tellS
          rw [if_neg (by decide)]
          decide
        · decide
      · decide
    · decide
  · decide
theorem other_row {a : List Int} {d : List P3} (hl : a.length + 12 * d.length + wsum d ≤ 100000000) : (parseS (a ++ [1]) (enc a d)).2 = 33 := by
  have hel := enc_len a d
  have hbl := body_len d
  have htk : (enc a d).take ((enc a d).length - 4) = head a d.length ++ body d := by
    rw [hel]
    unfold enc
    exact List.take_left' (by simp only [List.length_append, head_len]; omega)
  have hh := enc_split a d
  unfold parseS
  rw [if_neg (by omega)]
  have ht4 : (enc a d).take 4 = [84, 80, 68, 49] := by rw [hh]; exact List.take_left' (l₁ := [84, 80, 68, 49]) rfl
  have hm : (strOfNums ((enc a d).take 4)).toList = ([84, 80, 68, 49] : List UInt8) := by
    rw [ht4, str_list]
    rfl
  rw [if_pos hm, htk]
  have c1 := toI_ge (crc (head a d.length ++ body d))
  have c2 := toI_lt (crc (head a d.length ++ body d))
  have g1 : beV (enc a d) (((enc a d).length : Int) - 4) = toI (crc (head a d.length ++ body d)) :=
    be_at' (head a d.length ++ body d) [] _ _ (by rw [List.length_append, head_len]; omega) c1 c2 _ (by unfold enc; simp only [List.append_nil])
  have g2 : beV (enc a d) 4 = (a.length : Int) := be_at' [84, 80, 68, 49] (db_be4 (toI (crc a)) ++ (db_be4 (d.length : Int) ++ (body d ++ db_be4 (toI (crc (head a d.length ++ body d)))))) (a.length : Int) 4 (by simp) (by omega) (by omega) (enc a d) hh
  rw [if_pos g1, if_neg (by rw [g2, List.length_append, List.length_singleton]; omega)]
theorem bytes_set {l : List Int} (h : Bytes l) (i : Nat) {v : Int} (hv : 0 ≤ v ∧ v < 256) : Bytes (l.set i v) := by
  intro x hx
  rcases List.mem_or_eq_of_mem_set hx with hx | rfl
  · exact h x hx
  · exact hv
theorem turn_ev {y : List Int} (hb : Bytes y) (h4 : 4 ≤ y.length) (hl : y.length ≤ 1000000000) : Ev (fun k => dt_turn k y) (y.take (y.length - 4) ++ db_be4 (toI (crc (y.take (y.length - 4))))) := by
  obtain ⟨K, hK⟩ := sum_ev (l := y.take (y.length - 4)) (bytes_take hb _) (by rw [List.length_take]; omega)
  refine ⟨K + 10, fun k hk => ?_⟩
  show dt_turn k y = _
  unfold dt_turn
  rw [if_pos (by omega), show turnpikeref13_Sum.f k (y.take (y.length - 4)) = _ from hK k (by omega), Option.bind_some, put_some k (by omega) _ _ (by rw [List.length_take]; omega)]
end Go.Proofs.Ytlfkbkobkibemaa.Tu
namespace Go.Proofs.Ytlfkbkobkibemaa.Pure
open Go.RowKit Go.Proofs.Ytlfkbkobkibemaa.PT Go.Proofs.Ytlfkbkobkibemaa.Pl Go.Proofs.Ytlfkbkobkibemaa.Cr Go.Proofs.Ytlfkbkobkibemaa.Dw Go.Proofs.Ytlfkbkobkibemaa.Df Go.Proofs.Ytlfkbkobkibemaa.Pq Go.Proofs.Ytlfkbkobkibemaa.Pr Go.Proofs.Ytlfkbkobkibemaa.Ap Go.Proofs.Ytlfkbkobkibemaa.Tu Go.Proofs.YtlfkbkobkibemaaW.PrintWords Go.Proofs.YtlfkbkobkibemaaW.PrintLast
theorem reads_ev {a b : List Int} (ha : Bytes a) (hb : Bytes b) (h0 : a.length ≤ 1000000000) (h1 : b.length ≤ 1000000000) : Ev (fun k => turnpikelaw21_DeltaReads.f k a b) true := by
  obtain ⟨k, hk⟩ := DeltaReads a b (by simp only [maxLen]; omega) (by omega) (wf_of_bytes ha) (by simp only [maxLen]; omega) (by omega) (wf_of_bytes hb)
  exact Ev.of (turnpikelaw21_DeltaReads.mono a b) hk
theorem turned_j2 {a b s x : List Int} {at_ : Int} {d : List P3} (ha : Bytes a) (hb : Bytes b) (hla : a.length ≤ 32768) (hlb : b.length ≤ 32768) (hd : ∀ p ∈ d, Bytes p.f2) (h1 : d.length ≤ 1) (hw : wsum d ≤ 32768) (hf : fitS (a.length : Int) d = true) (hx : Bytes x) (hxl : x.length ≤ 1000000) : Ev (fun k => turnpikelaw21_DeltaTurned.j2 k a b at_ (enc a d) x) true := by
  have hel := enc_len a d
  have hsb := enc_bytes a hd
  obtain ⟨K1, e1⟩ := reads_ev ha hx (by omega) (by omega)
  obtain ⟨K2, e2⟩ := reads_ev hb hsb (by omega) (by omega)
  obtain ⟨t, ht, et⟩ := within_some at_ ((enc a d).length : Int) (by omega) (by omega)
  obtain ⟨K3, e3⟩ := parse_ev (b := (enc a d).take t) ha (bytes_take hsb _) (by omega) (by rw [List.length_take]; omega)
  have ha1 : Bytes (a ++ [1]) := bytes_append ha (by intro y hy; rw [List.mem_singleton.1 hy]; omega)
  obtain ⟨K4, e4⟩ := parse_ev (b := enc a d) ha1 hsb (by rw [List.length_append, List.length_singleton]; omega) (by omega)
  have hbad := cut_bad (t := t) hsb h1 (by omega) (by omega)
  have hother := other_row (a := a) (d := d) (by omega)
  refine ⟨K1 + K2 + K3 + K4 + 2, fun k hk => ?_⟩
  obtain ⟨k, rfl⟩ : ∃ m, k = m + 2 := ⟨k - 2, by omega⟩
  show turnpikelaw21_DeltaTurned.j2 (k + 2) a b at_ (enc a d) x = _
  simp only [turnpikelaw21_DeltaTurned.j2]
  rw [show turnpikelaw21_DeltaReads.f (k + 1) a x = _ from e1 (k + 1) (by omega), Option.bind_some, if_pos rfl, show turnpikelaw21_DeltaReads.f (k + 1) b (enc a d) = _ from e2 (k + 1) (by omega), Option.bind_some]
  simp only [turnpikelaw21_DeltaTurned.j3, Bool.not_true, Bool.false_eq_true, if_false, Option.bind_some, List.nil_append, List.length_nil, Nat.zero_add]
  rw [et, Option.bind_some, if_pos (by omega), if_pos (by omega), Int.toNat_natCast, show delta_Parse.f k a ((enc a d).take t) = _ from e3 k (by omega), Option.bind_some, if_pos (by omega), if_pos (by omega), show delta_Parse.f k (a ++ [1]) (enc a d) = _ from e4 k (by omega), Option.bind_some, if_neg hbad, hother]
  rfl
theorem DeltaTurned : turnpikelaw21_DeltaTurned.Pure := by
  intro a b at_ by_ right _ h0 wa _ h1 wb _ wy
  have ha := bytes_of_wf wa
  have hb := bytes_of_wf wb
  have key : ∃ k, turnpikelaw21_DeltaTurned.j0 k a b at_ by_ right true = some true ∧ (a.length ≤ 32768 → b.length ≤ 32768 → turnpikelaw21_DeltaTurned.j0 k a b at_ by_ right false = some true) := by
    by_cases c : a.length ≤ 32768 ∧ b.length ≤ 32768
    · obtain ⟨ca, cb⟩ := c
      have hw := diff_wsum a b
      have hl1 : (dspec a b).length ≤ 1 := by rw [dspec_len]; split <;> omega
      have hd := diff_bytes a hb
      have hf := diff_fit a b
      have hel := enc_len a (dspec a b)
      have hsb := enc_bytes a hd
      obtain ⟨K1, e1⟩ := diff_ev ha hb (by omega) (by omega)
      obtain ⟨K2, e2⟩ := bytes_ev (l := dspec a b) ha hd (by omega)
      rw [hf, if_pos rfl] at e2
      obtain ⟨i, hi, ei⟩ := within_some at_ (((enc a (dspec a b)).length : Int) - 4) (by omega) (by omega)
      have hcb : Bytes ((enc a (dspec a b)).set i ((rd (enc a (dspec a b)) (i : Int) + by_) % 256)) := bytes_set hsb i (by omega)
      have hcl : ((enc a (dspec a b)).set i ((rd (enc a (dspec a b)) (i : Int) + by_) % 256)).length = (enc a (dspec a b)).length := List.length_set
      obtain ⟨K3, e3⟩ := turn_ev hcb (by omega) (by omega)
      obtain ⟨K4, e4⟩ := turned_j2 (s := a) (at_ := at_) (d := dspec a b) ha hb ca cb hd hl1 (by omega) hf hcb (by omega)
      obtain ⟨K5, e5⟩ := turned_j2 (s := a) (at_ := at_) (d := dspec a b) ha hb ca cb hd hl1 (by omega) hf (bytes_append (bytes_take hcb ((((enc a (dspec a b)).set i ((rd (enc a (dspec a b)) (i : Int) + by_) % 256)).length) - 4)) (be4_bytes (toI (crc (((enc a (dspec a b)).set i ((rd (enc a (dspec a b)) (i : Int) + by_) % 256)).take (((enc a (dspec a b)).set i ((rd (enc a (dspec a b)) (i : Int) + by_) % 256)).length - 4)))))) (by rw [List.length_append, List.length_take, be4_len]; omega)
      obtain ⟨K, hK⟩ : ∃ K, K = K1 + K2 + K3 + K4 + K5 := ⟨_, rfl⟩
      refine ⟨K + 2, by simp only [turnpikelaw21_DeltaTurned.j0, if_true], fun _ _ => ?_⟩
      simp only [turnpikelaw21_DeltaTurned.j0, Bool.false_eq_true, if_false]
      rw [show delta_Diff.f (K + 1) a b = _ from e1 _ (by omega), Option.bind_some, show delta_Bytes.f (K + 1) a (dspec a b) = _ from e2 _ (by omega), Option.bind_some, if_pos rfl, decide_eq_false (show ¬ ((enc a (dspec a b)).length : Int) < 20 by omega)]
      simp only [turnpikelaw21_DeltaTurned.j1, Bool.false_eq_true, if_false, Option.bind_some, List.nil_append, List.length_nil, Nat.zero_add]
      rw [if_pos (by omega), w64 (by omega) (by omega), ei, Option.bind_some, if_pos (by omega), if_pos (by omega), Int.toNat_natCast]
      cases right
      · rw [if_neg (by decide)]
        exact e4 K (by omega)
      · rw [if_pos rfl, show dt_turn K _ = _ from e3 K (by omega), Option.bind_some]
        exact e5 K (by omega)
    · exact ⟨1, by simp only [turnpikelaw21_DeltaTurned.j0, if_true], fun h h' => absurd ⟨h, h'⟩ c⟩
  obtain ⟨k, k1, k2⟩ := key
  refine ⟨k, ?_⟩
  unfold turnpikelaw21_DeltaTurned.f turnpikelaw21_known.f
  simp only [Option.bind_some, if_true]
  split
  · exact k1
  · by_cases c : (b.length : Int) > 32768
    · rw [decide_eq_true c]; exact k1
    · rw [decide_eq_false c]; exact k2 (by omega) (by omega)
end Go.Proofs.Ytlfkbkobkibemaa.Pure
