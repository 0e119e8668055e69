/- What Apply and Bytes come to; Parse takes back what Bytes has written. -/
import Derived.Test.YtlfkbkobkibemaaPr
import Derived.Test.YtlfkbkobkibemaaPTx13
import Derived.Test.YtlfkbkobkibemaaPTx18
set_option linter.unusedSimpArgs false
set_option linter.unusedVariables false
namespace Go.Proofs.Ytlfkbkobkibemaa.Ap
open Go.RowKit Go.Proofs.Ytlfkbkobkibemaa.PT Go.Proofs.Ytlfkbkobkibemaa.Pl Go.Proofs.Ytlfkbkobkibemaa.Cr Go.Proofs.Ytlfkbkobkibemaa.Dw Go.Proofs.Ytlfkbkobkibemaa.Df Go.Proofs.Ytlfkbkobkibemaa.Pq Go.Proofs.Ytlfkbkobkibemaa.Pr Go.Proofs.YtlfkbkobkibemaaW.PrintWords Go.Proofs.YtlfkbkobkibemaaW.PrintLast Go.Proofs.YtlfkbkobkibemaaW.PrintMore
def applyL : List Int → List P3 → List Int
  | a, [] => a
  | a, p :: ps => a.take p.f0.toNat ++ p.f2 ++ applyL (a.drop (p.f0 + p.f1).toNat) ps
theorem fitS_cons {n : Int} {p : P3} {ps : List P3} (h : fitS n (p :: ps) = true) : 0 ≤ p.f0 ∧ p.f0 ≤ n ∧ 0 ≤ p.f1 ∧ p.f1 ≤ n - p.f0 ∧ fitS (n - (p.f0 + p.f1)) ps = true := by
  unfold fitS at h
  by_cases c1 : p.f0 < 0
  · rw [if_pos c1] at h; cases h
  rw [if_neg c1] at h
  by_cases c2 : p.f0 > n
  · rw [if_pos c2] at h; cases h
  rw [if_neg c2] at h
  by_cases c3 : p.f1 < 0
  · rw [if_pos c3] at h; cases h
  rw [if_neg c3] at h
  by_cases c4 : p.f1 > n - p.f0
  · rw [if_pos c4] at h; cases h
  rw [if_neg c4] at h
  exact ⟨by omega, by omega, by omega, by omega, h⟩
theorem wsum_cons (p : P3) (ps : List P3) : wsum (p :: ps) = p.f2.length + wsum ps := by simp [wsum]
theorem apply_l0 (l : List P3) (hl : l.length ≤ 140737488355328) : ∀ (d k i : Nat) (a out : List Int), i + d = l.length → d < k → fitS (a.length : Int) (l.drop i) = true → out.length + a.length + wsum (l.drop i) ≤ 1000000000 →
    delta_Apply.l0 k a out l (l.length : Int) (i : Int) = some (out ++ applyL a (l.drop i), 0)
  | 0, k, i, a, out, hi, hk, hf, hb => by
    obtain ⟨k, rfl⟩ : ∃ m, k = m + 1 := ⟨k - 1, by omega⟩
    simp only [delta_Apply.l0]
    rw [if_neg (by omega), List.drop_eq_nil_of_le (by omega), if_pos (by omega)]
    rfl
  | d + 1, k, i, a, out, hi, hk, hf, hb => by
    obtain ⟨k, rfl⟩ : ∃ m, k = m + 1 := ⟨k - 1, by omega⟩
    rw [drop_cons l i (by omega)] at hf hb ⊢
    rw [wsum_cons] at hb
    simp only [delta_Apply.l0]
    rw [if_pos (by omega), if_pos (by omega), if_pos (by omega)]
    generalize rd_T33 l (i : Int) = p at *
    obtain ⟨h1, h2, h3, h4, h5⟩ := fitS_cons hf
    rw [if_pos h1, if_pos h2]
    simp only [Option.bind_some]
    have ht : (a.take p.f0.toNat).length = p.f0.toNat := by rw [List.length_take]; omega
    rw [ht, if_pos (by omega), List.length_append, ht, if_pos (by omega), w64 (x := p.f0 + p.f1) (by omega) (by omega), if_pos (by omega), if_pos (by omega), w64 (x := (i : Int) + 1) (by omega) (by omega), show (i : Int) + 1 = ((i + 1 : Nat) : Int) by omega]
    have hd : (a.drop (p.f0 + p.f1).toNat).length = a.length - (p.f0 + p.f1).toNat := List.length_drop
    rw [apply_l0 l hl d k (i + 1) _ _ (by omega) (by omega) (by rw [hd, show ((a.length - (p.f0 + p.f1).toNat : Nat) : Int) = (a.length : Int) - (p.f0 + p.f1) by omega]; exact h5) (by rw [hd]; simp only [List.length_append, ht]; omega)]
    simp only [applyL, List.append_assoc]
theorem apply_ev (a : List Int) (l : List P3) (hl : l.length ≤ 140737488351232) (hb : a.length + wsum l ≤ 1000000000) : Ev (fun k => delta_Apply.f k a l) (if fitS (a.length : Int) l then (applyL a l, 0) else ([], 33)) := by
  obtain ⟨K, hK⟩ := fit_ev (a.length : Int) l (by omega) (by omega) (by omega)
  refine ⟨K + l.length + 1, fun k hk => ?_⟩
  show delta_Apply.f k a l = _
  unfold delta_Apply.f
  rw [show delta_fit.f k (a.length : Int) l = _ from hK k (by omega), Option.bind_some]
  by_cases hf : fitS (a.length : Int) l = true
  · rw [if_pos hf, if_pos hf]
    have h := apply_l0 l (by omega) l.length k 0 a [] (by omega) (by omega) (by simpa using hf) (by simpa using hb)
    simpa using h
  · rw [if_neg hf, if_neg hf]
/-! the bytes -/
def body : List P3 → List Int
  | [] => []
  | p :: ps => db_be4 p.f0 ++ db_be4 p.f1 ++ db_be4 (p.f2.length : Int) ++ p.f2 ++ body ps
theorem be4_bytes (v : Int) : Bytes (db_be4 v) := by
  intro x hx
  simp only [db_be4, List.mem_cons, List.not_mem_nil, or_false] at hx
  rcases hx with rfl | rfl | rfl | rfl <;> omega
theorem be4_len (v : Int) : (db_be4 v).length = 4 := rfl
theorem body_bytes : ∀ {l : List P3}, (∀ p ∈ l, Bytes p.f2) → Bytes (body l)
  | [], _ => fun x hx => by cases hx
  | p :: ps, h => by
    unfold body
    exact bytes_append (bytes_append (bytes_append (bytes_append (be4_bytes _) (be4_bytes _)) (be4_bytes _)) (h p (by simp))) (body_bytes (fun q hq => h q (by simp [hq])))
theorem body_len : ∀ (l : List P3), (body l).length = 12 * l.length + wsum l
  | [] => rfl
  | p :: ps => by
    unfold body
    rw [wsum_cons]
    simp only [List.length_append, be4_len, body_len ps, List.length_cons]
    omega
theorem db_l_some : ∀ (l : List P3) (out : List Int), Bytes out → (∀ p ∈ l, Bytes p.f2) → out.length + 12 * l.length + wsum l ≤ 1000000000 → db_l l out = some (out ++ body l ++ db_be4 (toI (crc (out ++ body l))), 0)
  | [], out, hb, _, hl => by
    unfold db_l
    rw [if_pos (by omega), crcI hb]
    simp [body]
  | p :: ps, out, hb, hp, hl => by
    rw [wsum_cons, List.length_cons] at hl
    unfold db_l
    rw [if_neg (by omega), if_pos (by omega)]
    rw [db_l_some ps _ (bytes_append (bytes_append (bytes_append (bytes_append hb (be4_bytes _)) (be4_bytes _)) (be4_bytes _)) (hp p (by simp))) (fun q hq => hp q (by simp [hq])) (by simp only [List.length_append, be4_len]; omega)]
    simp only [body, List.append_assoc]
def head (a : List Int) (n : Nat) : List Int := [84, 80, 68, 49] ++ db_be4 (a.length : Int) ++ db_be4 (toI (crc a)) ++ db_be4 (n : Int)
def enc (a : List Int) (l : List P3) : List Int := head a l.length ++ body l ++ db_be4 (toI (crc (head a l.length ++ body l)))
theorem head_bytes (a : List Int) (n : Nat) : Bytes (head a n) := by
  unfold head
  refine bytes_append (bytes_append (bytes_append ?_ (be4_bytes _)) (be4_bytes _)) (be4_bytes _)
  intro x hx
  simp only [List.mem_cons, List.not_mem_nil, or_false] at hx
  rcases hx with rfl | rfl | rfl | rfl <;> omega
theorem head_len (a : List Int) (n : Nat) : (head a n).length = 16 := rfl
theorem enc_len (a : List Int) (l : List P3) : (enc a l).length = 20 + 12 * l.length + wsum l := by
  unfold enc
  simp only [List.length_append, head_len, body_len, be4_len]
  omega
theorem enc_bytes (a : List Int) {l : List P3} (h : ∀ p ∈ l, Bytes p.f2) : Bytes (enc a l) := bytes_append (bytes_append (head_bytes _ _) (body_bytes h)) (be4_bytes _)
theorem bytes_ev {a : List Int} {l : List P3} (ha : Bytes a) (hp : ∀ p ∈ l, Bytes p.f2) (hl : a.length + 12 * l.length + wsum l ≤ 100000000) : Ev (fun k => delta_Bytes.f k a l) (if fitS (a.length : Int) l then (enc a l, 0) else ([], 33)) := by
  obtain ⟨K, hK⟩ := fit_ev (a.length : Int) l (by omega) (by omega) (by omega)
  refine ⟨K, fun k hk => ?_⟩
  show delta_Bytes.f k a l = _
  unfold delta_Bytes.f
  rw [show delta_fit.f k (a.length : Int) l = _ from hK k (by omega), Option.bind_some]
  by_cases hf : fitS (a.length : Int) l = true
  · rw [if_pos hf, if_pos hf, if_neg (by omega), if_neg (by omega), crcI ha]
    exact db_l_some l (head a l.length) (head_bytes a l.length) hp (by rw [head_len]; omega)
  · rw [if_neg hf, if_neg hf]
/-! read back -/
theorem be_at (p q : List Int) (v : Int) (h0 : 0 ≤ v) (h1 : v < 4294967296) : beV (p ++ (db_be4 v ++ q)) (p.length : Int) = v := by
  have r : ∀ j : Nat, j < 4 → rd (p ++ (db_be4 v ++ q)) ((p.length : Int) + j) = (db_be4 v).getD j 0 := by
    intro j hj
    unfold rd
    rw [show ((p.length : Int) + j).toNat = p.length + j by omega, getD_app_ge _ _ (by omega), show p.length + j - p.length = j by omega, getD_app_lt _ _ (by rw [be4_len]; exact hj)]
  have r0 := r 0 (by omega)
  have r1 := r 1 (by omega)
  have r2 := r 2 (by omega)
  have r3 := r 3 (by omega)
  unfold beV
  rw [show (p.length : Int) + 1 = (p.length : Int) + (1 : Nat) from rfl, show (p.length : Int) + 2 = (p.length : Int) + (2 : Nat) from rfl, show (p.length : Int) + 3 = (p.length : Int) + (3 : Nat) from rfl, r1, r2, r3]
  rw [show (p.length : Int) = (p.length : Int) + (0 : Nat) by omega, r0]
  simp only [db_be4, List.getD_cons_zero, List.getD_cons_succ]
  omega
theorem be_at' (p q : List Int) (v : Int) (x : Int) (hx : x = (p.length : Int)) (h0 : 0 ≤ v) (h1 : v < 4294967296) (y : List Int) (hy : y = p ++ (db_be4 v ++ q)) : beV y x = v := by
  rw [hx, hy]
  exact be_at p q v h0 h1
theorem loop_body : ∀ (ps : List P3) (pre : List Int) (acc : List P3) (y : List Int), y = pre ++ body ps → Bytes y → y.length ≤ 1000000000 → (∀ p ∈ ps, 0 ≤ p.f0 ∧ p.f0 < 4294967296 ∧ 0 ≤ p.f1 ∧ p.f1 < 4294967296) → acc.length ≤ 1000000000 → acc.length + ps.length ≤ 1000000000 →
    dp_loop y ps.length (pre.length : Int) acc = some (acc ++ ps, 0)
  | [], pre, acc, y, hy, hb, hl, hp, ha, hs => by
    subst hy
    unfold dp_loop
    rw [List.length_nil]
    simp [body]
  | p :: ps, pre, acc, y, hy, hb, hl, hp, ha, hs => by
    have hy2 : y = pre ++ (db_be4 p.f0 ++ (db_be4 p.f1 ++ (db_be4 (p.f2.length : Int) ++ (p.f2 ++ body ps)))) := by rw [hy]; simp only [body, List.append_assoc]
    have hyl : y.length = pre.length + 12 + p.f2.length + (body ps).length := by rw [hy2]; simp only [List.length_append, be4_len]; omega
    obtain ⟨q0, q1, q2, q3⟩ := hp p (by simp)
    rw [List.length_cons] at hs ⊢
    have g0 : dp_get y (pre.length : Int) = p.f0 := by rw [get_val hb]; exact be_at' pre _ p.f0 _ rfl q0 q1 y hy2
    have g1 : dp_get y ((pre.length : Int) + 4) = p.f1 := by
      rw [get_val hb]
      exact be_at' (pre ++ db_be4 p.f0) (db_be4 (p.f2.length : Int) ++ (p.f2 ++ body ps)) p.f1 _ (by rw [List.length_append, be4_len]; omega) q2 q3 y (by rw [hy2]; simp only [List.append_assoc])
    have g2 : dp_get y ((pre.length : Int) + 8) = (p.f2.length : Int) := by
      rw [get_val hb]
      exact be_at' (pre ++ db_be4 p.f0 ++ db_be4 p.f1) (p.f2 ++ body ps) (p.f2.length : Int) _ (by simp only [List.length_append, be4_len]; omega) (by omega) (by omega) y (by rw [hy2]; simp only [List.append_assoc])
    unfold dp_loop
    rw [if_neg (by omega), g2, if_neg (by omega), if_pos (by omega), g0, g1]
    have hd : (y.take ((pre.length : Int) + 12 + (p.f2.length : Int)).toNat).drop ((pre.length : Int) + 12).toNat = p.f2 := by
      rw [show ((pre.length : Int) + 12 + (p.f2.length : Int)).toNat = pre.length + 12 + p.f2.length by omega, show ((pre.length : Int) + 12).toNat = pre.length + 12 by omega, hy2]
      have e1 : pre ++ (db_be4 p.f0 ++ (db_be4 p.f1 ++ (db_be4 (p.f2.length : Int) ++ (p.f2 ++ body ps)))) = (pre ++ db_be4 p.f0 ++ db_be4 p.f1 ++ db_be4 (p.f2.length : Int)) ++ (p.f2 ++ body ps) := by simp only [List.append_assoc]
      have e2 : (pre ++ db_be4 p.f0 ++ db_be4 p.f1 ++ db_be4 (p.f2.length : Int)).length = pre.length + 12 := by simp only [List.length_append, be4_len]
      rw [e1, List.drop_take, List.drop_left' e2, show pre.length + 12 + p.f2.length - (pre.length + 12) = p.f2.length by omega]
      exact List.take_left' rfl
    rw [hd]
    have hpre : (pre.length : Int) + 12 + (p.f2.length : Int) = ((pre ++ db_be4 p.f0 ++ db_be4 p.f1 ++ db_be4 (p.f2.length : Int) ++ p.f2).length : Int) := by simp only [List.length_append, be4_len]; omega
    rw [hpre, loop_body ps (pre ++ db_be4 p.f0 ++ db_be4 p.f1 ++ db_be4 (p.f2.length : Int) ++ p.f2) _ y (by rw [hy2]; simp only [List.append_assoc]) hb hl (fun q hq => hp q (by simp [hq])) (by rw [List.length_append]; simp only [List.length_singleton]; omega) (by rw [List.length_append]; simp only [List.length_singleton]; omega)]
    simp
theorem fit_parts : ∀ {l : List P3} {n : Int}, fitS n l = true → n < 4294967296 → ∀ p ∈ l, 0 ≤ p.f0 ∧ p.f0 < 4294967296 ∧ 0 ≤ p.f1 ∧ p.f1 < 4294967296
  | [], _, _, _, p, hp => by cases hp
  | q :: l, n, h, hn, p, hp => by
    obtain ⟨h1, h2, h3, h4, h5⟩ := fitS_cons h
    rcases List.mem_cons.1 hp with rfl | hp
    · omega
    · exact fit_parts h5 (by omega) p hp
set_option maxHeartbeats 1000000 in
theorem parse_enc {a : List Int} {l : List P3} (ha : Bytes a) (hp : ∀ p ∈ l, Bytes p.f2) (hl : a.length + 12 * l.length + wsum l ≤ 100000000) (hf : fitS (a.length : Int) l = true) : parseS a (enc a l) = (l, 0) := by
  have hel := enc_len a l
  have heb := enc_bytes a hp
  have hbl := body_len l
  have htk : (enc a l).take ((enc a l).length - 4) = head a l.length ++ body l := by
    rw [hel]
    unfold enc
    exact List.take_left' (by simp only [List.length_append, head_len]; omega)
  have hh : enc a l = [84, 80, 68, 49] ++ (db_be4 (a.length : Int) ++ (db_be4 (toI (crc a)) ++ (db_be4 (l.length : Int) ++ (body l ++ db_be4 (toI (crc (head a l.length ++ body l))))))) := by
    unfold enc head
    simp only [List.append_assoc]
  unfold parseS
  rw [if_neg (by omega)]
  have ht4 : (enc a l).take 4 = [84, 80, 68, 49] := by rw [hh]; exact List.take_left' (l₁ := [84, 80, 68, 49]) rfl
  have hm : (strOfNums ((enc a l).take 4)).toList = ([84, 80, 68, 49] : List UInt8) := by
    rw [ht4, str_list]
    rfl
  rw [if_pos hm, htk]
  have c1 := toI_ge (crc (head a l.length ++ body l))
  have c2 := toI_lt (crc (head a l.length ++ body l))
  have c3 := toI_ge (crc a)
  have c4 := toI_lt (crc a)
  have g1 : beV (enc a l) (((enc a l).length : Int) - 4) = toI (crc (head a l.length ++ body l)) :=
    be_at' (head a l.length ++ body l) [] _ _ (by rw [List.length_append, head_len]; omega) c1 c2 _ (by unfold enc; simp only [List.append_nil])
  have g2 : beV (enc a l) 4 = (a.length : Int) := be_at' [84, 80, 68, 49] (db_be4 (toI (crc a)) ++ (db_be4 (l.length : Int) ++ (body l ++ db_be4 (toI (crc (head a l.length ++ body l)))))) (a.length : Int) 4 (by simp) (by omega) (by omega) (enc a l) hh
  have g3 : beV (enc a l) 8 = toI (crc a) := be_at' ([84, 80, 68, 49] ++ db_be4 (a.length : Int)) (db_be4 (l.length : Int) ++ (body l ++ db_be4 (toI (crc (head a l.length ++ body l))))) (toI (crc a)) 8 (by simp [be4_len]) c3 c4 (enc a l) (by rw [hh, List.append_assoc])
  rw [if_pos g1, if_pos g2, if_pos g3]
  have hy : (head a l.length ++ body l).drop 12 = db_be4 (l.length : Int) ++ body l := by
    have e : head a l.length ++ body l = ([84, 80, 68, 49] ++ db_be4 (a.length : Int) ++ db_be4 (toI (crc a))) ++ (db_be4 (l.length : Int) ++ body l) := by unfold head; simp only [List.append_assoc]
    rw [e]
    exact List.drop_left' rfl
  rw [hy]
  have hyb : Bytes (db_be4 (l.length : Int) ++ body l) := bytes_append (be4_bytes _) (body_bytes hp)
  have g4 : dp_get (db_be4 (l.length : Int) ++ body l) 0 = (l.length : Int) := by
    rw [get_val hyb]
    exact be_at' [] (body l) _ _ rfl (by omega) (by omega) _ rfl
  have hpp : patchS (db_be4 (l.length : Int) ++ body l) = (l, 0) := by
    unfold patchS dp_patches
    rw [if_neg (by rw [List.length_append, be4_len]; omega), g4, Int.toNat_natCast]
    have := loop_body l (db_be4 (l.length : Int)) [] (db_be4 (l.length : Int) ++ body l) rfl hyb (by rw [List.length_append, be4_len]; omega) (fit_parts hf (by omega)) (by simp) (by simp; omega)
    rw [be4_len] at this
    rw [show (4 : Int) = ((4 : Nat) : Int) from rfl, this]
    rfl
  rw [hpp]
  unfold tellS
  rw [if_pos rfl]
  simp only
  rw [hf, if_pos rfl]
end Go.Proofs.Ytlfkbkobkibemaa.Ap
