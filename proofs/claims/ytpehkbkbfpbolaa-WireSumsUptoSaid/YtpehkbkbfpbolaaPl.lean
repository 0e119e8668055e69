/- Plain facts about numbers, lists of bytes and scans, without the program. -/
import Derived.Test.YtpehkbkbfpbolaaWMore
set_option linter.unusedSimpArgs false
set_option linter.unusedVariables false
namespace Go.Proofs.Ytpehkbkbfpbolaa.Pl
open Go.RowKit Go.Proofs.YtpehkbkbfpbolaaW.PrintWords
theorem w64 {x : Int} (h0 : -9223372036854775808 ≤ x) (h1 : x ≤ 9223372036854775807) : wrap64 x = x := by unfold wrap64; omega
def Bytes (l : List Int) : Prop := ∀ x ∈ l, 0 ≤ x ∧ x < 256
theorem bytes_of_wf {l : List Int} (h : ∀ x ∈ l, (Lit.int .u8 x).wf = true) : Bytes l := by
  intro x hx
  have := h x hx
  simp [Lit.wf, IntKind.min, IntKind.max, IntKind.signed, IntKind.bits] at this
  omega
theorem bytes_take {l : List Int} (h : Bytes l) (n : Nat) : Bytes (l.take n) := fun x hx => h x (List.mem_of_mem_take hx)
theorem bytes_drop {l : List Int} (h : Bytes l) (n : Nat) : Bytes (l.drop n) := fun x hx => h x (List.mem_of_mem_drop hx)
theorem bytes_append {a b : List Int} (ha : Bytes a) (hb : Bytes b) : Bytes (a ++ b) := by
  intro x hx
  rcases List.mem_append.1 hx with h | h
  · exact ha x h
  · exact hb x h
theorem str_list (l : List Int) : (strOfNums l).toList = l.map fun n => UInt8.ofNat n.toNat := by
  rw [ByteArray.toList_eq]; simp [strOfNums]
theorem u8_inj {x y : Int} (hx : 0 ≤ x ∧ x < 256) (hy : 0 ≤ y ∧ y < 256) (h : UInt8.ofNat x.toNat = UInt8.ofNat y.toNat) : x = y := by
  have := congrArg UInt8.toNat h
  simp only [UInt8.toNat_ofNat', UInt8.size] at this
  omega
theorem map_inj : ∀ {a b : List Int}, Bytes a → Bytes b → (a.map fun n => UInt8.ofNat n.toNat) = (b.map fun n => UInt8.ofNat n.toNat) → a = b
  | [], [], _, _, _ => rfl
  | [], _ :: _, _, _, h => by simp at h
  | _ :: _, [], _, _, h => by simp at h
  | x :: a, y :: b, ha, hb, h => by
    simp only [List.map_cons, List.cons.injEq] at h
    rw [u8_inj (ha x (by simp)) (hb y (by simp)) h.1, map_inj (fun z hz => ha z (by simp [hz])) (fun z hz => hb z (by simp [hz])) h.2]
theorem str_inj {a b : List Int} (ha : Bytes a) (hb : Bytes b) : (strOfNums a).toList = (strOfNums b).toList ↔ a = b := by
  rw [str_list, str_list]
  exact ⟨map_inj ha hb, fun h => by rw [h]⟩
/-! scans -/
def scan (P : Nat → Bool) : Nat → Nat → Nat
  | 0, i => i
  | d + 1, i => if P i then scan P d (i + 1) else i
theorem scan_le (P : Nat → Bool) : ∀ d i, i ≤ scan P d i ∧ scan P d i ≤ i + d
  | 0, i => ⟨Nat.le_refl _, Nat.le_refl _⟩
  | d + 1, i => by
    unfold scan
    split
    · have := scan_le P d (i + 1); omega
    · omega
theorem scan_yes (P : Nat → Bool) : ∀ d i j, i ≤ j → j < scan P d i → P j = true
  | 0, i, j, h0, h1 => by simp only [scan] at h1; omega
  | d + 1, i, j, h0, h1 => by
    unfold scan at h1
    split at h1
    · rename_i h
      rcases Nat.eq_or_lt_of_le h0 with e | e
      · rw [← e]; exact h
      · exact scan_yes P d (i + 1) j e h1
    · omega
theorem scan_no (P : Nat → Bool) : ∀ d i, scan P d i < i + d → P (scan P d i) = false
  | 0, i, h => by simp only [scan] at h; omega
  | d + 1, i, h => by
    unfold scan at h ⊢
    split
    · rename_i hp
      rw [if_pos hp] at h
      exact scan_no P d (i + 1) (by omega)
    · rename_i hp
      simpa using hp
theorem scan_all {P : Nat → Bool} : ∀ {d i}, (∀ j, i ≤ j → j < i + d → P j = true) → scan P d i = i + d
  | 0, i, _ => rfl
  | d + 1, i, h => by
    unfold scan
    rw [if_pos (h i (Nat.le_refl _) (by omega)), scan_all (fun j h0 h1 => h j (by omega) (by omega))]
    omega
theorem scan_ge {P : Nat → Bool} {d i m : Nat} (hm : m ≤ i + d) (h : ∀ j, i ≤ j → j < m → P j = true) : m ≤ scan P d i := by
  rcases Nat.lt_or_ge (scan P d i) m with hlt | hge
  · have h1 := scan_no P d i (by omega)
    rw [h _ (scan_le P d i).1 hlt] at h1
    cases h1
  · exact hge
theorem scan_congr {P Q : Nat → Bool} : ∀ {d i}, (∀ j, i ≤ j → j < i + d → P j = Q j) → scan P d i = scan Q d i
  | 0, i, _ => rfl
  | d + 1, i, h => by
    unfold scan
    rw [h i (Nat.le_refl _) (by omega), scan_congr (fun j h0 h1 => h j (by omega) (by omega))]
/-! prefixes and suffixes -/
def pre (a b : List Int) (j : Nat) : Bool := a.getD j 0 == b.getD j 0
def suf (a b : List Int) (j : Nat) : Bool := a.getD (a.length - 1 - j) 0 == b.getD (b.length - 1 - j) 0
def lcp (a b : List Int) : Nat := scan (pre a b) (min a.length b.length) 0
def lcs (a b : List Int) (p : Nat) : Nat := scan (suf a b) (min (a.length - p) (b.length - p)) 0
theorem lcp_le (a b : List Int) : lcp a b ≤ a.length ∧ lcp a b ≤ b.length := by
  have := (scan_le (pre a b) (min a.length b.length) 0).2
  unfold lcp; omega
theorem lcs_le (a b : List Int) (p : Nat) : lcs a b p ≤ a.length - p ∧ lcs a b p ≤ b.length - p := by
  have := (scan_le (suf a b) (min (a.length - p) (b.length - p)) 0).2
  unfold lcs; omega
theorem getD_drop (l : List Int) (p j : Nat) : (l.drop p).getD j 0 = l.getD (p + j) 0 := by
  simp [List.getD_eq_getElem?_getD, List.getElem?_drop]
theorem getD_take (l : List Int) {n j : Nat} (h : j < n) : (l.take n).getD j 0 = l.getD j 0 := by
  simp [List.getD_eq_getElem?_getD, List.getElem?_take, h]
theorem getD_app_lt (a b : List Int) {j : Nat} (h : j < a.length) : (a ++ b).getD j 0 = a.getD j 0 := by
  simp [List.getD_eq_getElem?_getD, List.getElem?_append, h]
theorem getD_app_ge (a b : List Int) {j : Nat} (h : a.length ≤ j) : (a ++ b).getD j 0 = b.getD (j - a.length) 0 := by
  simp [List.getD_eq_getElem?_getD, List.getElem?_append, Nat.not_lt.2 h]
theorem suf_drop (a b : List Int) (p : Nat) {j : Nat} (h0 : j < a.length - p) (h1 : j < b.length - p) : suf (a.drop p) (b.drop p) j = suf a b j := by
  unfold suf
  rw [getD_drop, getD_drop, List.length_drop, List.length_drop, show p + (a.length - p - 1 - j) = a.length - 1 - j by omega, show p + (b.length - p - 1 - j) = b.length - 1 - j by omega]
theorem lcs_drop (a b : List Int) (p : Nat) : lcs (a.drop p) (b.drop p) 0 = lcs a b p := by
  unfold lcs
  rw [List.length_drop, List.length_drop, Nat.sub_zero, Nat.sub_zero]
  exact scan_congr (fun j _ hj => suf_drop a b p (by omega) (by omega))
/-- 'a, its bytes from i to j taken out': the common head and tail leave nothing of it. -/
theorem cut_lens (a : List Int) {i j : Nat} (hij : i ≤ j) (hj : j ≤ a.length) (b : List Int) (hb : b = a.take i ++ a.drop j) :
    b.length = a.length - (j - i) ∧ i ≤ lcp a b ∧ lcs a b (lcp a b) = b.length - lcp a b ∧ lcp b a = lcp a b ∧ lcs b a (lcp a b) = b.length - lcp a b := by
  have hl : b.length = a.length - (j - i) := by rw [hb, List.length_append, List.length_take, List.length_drop]; omega
  have hp : i ≤ lcp a b := by
    refine scan_ge (by omega) (fun k _ hk => ?_)
    simp only [pre, hb, beq_iff_eq]
    rw [getD_app_lt _ _ (by rw [List.length_take]; omega), getD_take _ hk]
  have hs : ∀ k, k < b.length - lcp a b → a.getD (a.length - 1 - k) 0 = b.getD (b.length - 1 - k) 0 := by
    intro k hk
    rw [hb, getD_app_ge _ _ (by rw [List.length_take, ← hb]; omega), getD_drop]
    congr 1
    rw [List.length_take, ← hb]
    omega
  have hple := lcp_le a b
  have hsym : lcp b a = lcp a b := by
    unfold lcp
    rw [Nat.min_comm b.length]
    congr 1
    funext k
    unfold pre
    exact Bool.eq_iff_iff.2 (by simp only [beq_iff_eq]; exact eq_comm)
  refine ⟨hl, hp, ?_, hsym, ?_⟩
  · unfold lcs
    rw [show min (a.length - lcp a b) (b.length - lcp a b) = b.length - lcp a b by omega]
    rw [scan_all (fun k _ hk => by simp only [suf, beq_iff_eq]; exact hs k (by omega))]
    omega
  · unfold lcs
    rw [show min (b.length - lcp a b) (a.length - lcp a b) = b.length - lcp a b by omega]
    rw [scan_all (fun k _ hk => by simp only [suf, beq_iff_eq]; exact (hs k (by omega)).symm)]
    omega
end Go.Proofs.Ytpehkbkbfpbolaa.Pl
