/- The sum of wire as words of 32 bits: a step is linear, and what the table does is four steps. -/
import Derived.Test.YtpehkbkbfpbolaaPl
import Derived.Test.YtpehkbkbfpbolaaPZx2
set_option linter.unusedSimpArgs false
set_option linter.unusedVariables false
namespace Go.Proofs.Ytpehkbkbfpbolaa.Cr
open Go.RowKit Go.Proofs.Ytpehkbkbfpbolaa.PZ Go.Proofs.Ytpehkbkbfpbolaa.Pl Go.Proofs.YtpehkbkbfpbolaaW.PrintWords
abbrev V := BitVec 32
def toI (v : V) : Int := (v.toNat : Int)
def poly : V := 2197175160#32
def S (c : V) : V := (c >>> 1) ^^^ (if c.getLsbD 0 then poly else 0#32)
theorem toI_ge (v : V) : 0 ≤ toI v := by unfold toI; omega
theorem toI_lt (v : V) : toI v < 4294967296 := by have := v.isLt; unfold toI; omega
theorem ofInt_toI (v : V) : BitVec.ofInt 32 (toI v) = v := by
  unfold toI
  apply BitVec.eq_of_toNat_eq
  have := v.isLt
  rw [BitVec.toNat_ofInt]
  omega
theorem wrap_nat (v : V) : IntKind.u32.wrap ((v.toNat : Nat) : Int) = toI v := by
  have := v.isLt
  rw [IntKind.wrap_u32]
  unfold toI
  omega
theorem xorI (a b : V) : Go.bits .xor .u32 (toI a) (toI b) = toI (a ^^^ b) := by
  show IntKind.u32.wrap (((BitVec.ofInt 32 (toI a) ^^^ BitVec.ofInt 32 (toI b)).toNat : Nat) : Int) = _
  rw [ofInt_toI, ofInt_toI, wrap_nat]
theorem andI (a b : V) : Go.bits .and .u32 (toI a) (toI b) = toI (a &&& b) := by
  show IntKind.u32.wrap (((BitVec.ofInt 32 (toI a) &&& BitVec.ofInt 32 (toI b)).toNat : Nat) : Int) = _
  rw [ofInt_toI, ofInt_toI, wrap_nat]
theorem orI (a b : V) : Go.bits .or .u32 (toI a) (toI b) = toI (a ||| b) := by
  show IntKind.u32.wrap (((BitVec.ofInt 32 (toI a) ||| BitVec.ofInt 32 (toI b)).toNat : Nat) : Int) = _
  rw [ofInt_toI, ofInt_toI, wrap_nat]
theorem toI_of {x : Int} (h0 : 0 ≤ x) (h1 : x < 4294967296) : toI (BitVec.ofInt 32 x) = x := by
  unfold toI
  rw [BitVec.toNat_ofInt]
  omega
theorem toI_inj {a b : V} (h : toI a = toI b) : a = b := by
  rw [← ofInt_toI a, h, ofInt_toI]
theorem shr1 (a : V) : toI a / (2 : Int) = toI (a >>> 1) := by
  unfold toI
  rw [BitVec.toNat_ushiftRight, Nat.shiftRight_eq_div_pow, Nat.pow_one]
  omega
theorem shr4 (a : V) : toI a / (16 : Int) = toI (a >>> 4) := by
  unfold toI
  rw [BitVec.toNat_ushiftRight, Nat.shiftRight_eq_div_pow, show 2 ^ 4 = 16 from rfl]
  omega
theorem lit1 : (1 : Int) = toI 1#32 := rfl
theorem litp : (2197175160 : Int) = toI poly := rfl
theorem lit15 : (15 : Int) = toI 15#32 := rfl
theorem lsb_and (c : V) : c &&& 1#32 = if c.getLsbD 0 then 1#32 else 0#32 := by
  apply BitVec.eq_of_getLsbD_eq
  intro i hi
  rw [BitVec.getLsbD_and]
  by_cases h0 : i = 0
  · subst h0
    cases h : c.getLsbD 0 <;> simp [h]
  · have h1 : (1#32).getLsbD i = false := by simp [BitVec.getLsbD_one, h0]
    rw [h1, Bool.and_false]
    split
    · exact h1.symm
    · simp
theorem and1I (c : V) : Go.bits .and .u32 (toI c) 1 = if c.getLsbD 0 then 1 else 0 := by
  rw [lit1, andI, lsb_and]
  split <;> rfl
theorem st1I (c : V) : sm_st1 (toI c) = toI (S c) := by
  unfold sm_st1 S
  rw [and1I, shr1]
  cases h : c.getLsbD 0
  · simp only [Bool.false_eq_true, if_false]
    rw [show (-(0 : Int) % 4294967296) = toI 0#32 from rfl, litp, andI, xorI]
    simp
  · simp only [if_true]
    rw [show (-(1 : Int) % 4294967296) = toI 4294967295#32 from rfl, litp, andI, xorI]
    congr 1
theorem S_xor (a b : V) : S (a ^^^ b) = S a ^^^ S b := by
  unfold S
  apply BitVec.eq_of_getLsbD_eq
  intro i hi
  simp only [BitVec.getLsbD_xor, BitVec.getLsbD_ushiftRight]
  cases a.getLsbD 0 <;> cases b.getLsbD 0 <;> cases a.getLsbD (1 + i) <;> cases b.getLsbD (1 + i) <;> cases poly.getLsbD i <;> simp
def Sn : Nat → V → V
  | 0, c => c
  | n + 1, c => S (Sn n c)
theorem Sn_xor (n : Nat) (a b : V) : Sn n (a ^^^ b) = Sn n a ^^^ Sn n b := by
  induction n with
  | zero => rfl
  | succ n ih => simp only [Sn, ih, S_xor]
theorem Sn_add (m n : Nat) (a : V) : Sn (m + n) a = Sn m (Sn n a) := by
  induction m with
  | zero => simp [Sn]
  | succ m ih => rw [Nat.succ_add]; simp only [Sn, ih]
theorem it_I (n : Nat) (c : V) : sm_it n (toI c) = toI (Sn n c) := by
  induction n with
  | zero => rfl
  | succ n ih => simp only [sm_it, Sn, ih, st1I]
/-- Noughts that are shifted out leave nothing but the shift. -/
theorem Sn_low : ∀ (n : Nat) (c : V), (∀ i, i < n → c.getLsbD i = false) → Sn n c = c >>> n
  | 0, c, _ => by simp [Sn]
  | n + 1, c, h => by
    have h1 := Sn_low n c (fun i hi => h i (by omega))
    simp only [Sn, h1]
    unfold S
    have h2 : (c >>> n).getLsbD 0 = false := by rw [BitVec.getLsbD_ushiftRight]; simpa using h n (by omega)
    rw [h2]
    simp only [Bool.false_eq_true, if_false]
    rw [BitVec.shiftRight_add]
    simp
theorem split4 (c : V) : c = (c &&& 4294967280#32) ^^^ (c &&& 15#32) := by
  apply BitVec.eq_of_getLsbD_eq
  intro i hi
  simp only [BitVec.getLsbD_xor, BitVec.getLsbD_and]
  rcases i with _ | _ | _ | _ | _ | _ | _ | _ | _ | _ | _ | _ | _ | _ | _ | _ | _ | _ | _ | _ | _ | _ | _ | _ | _ | _ | _ | _ | _ | _ | _ | _ | i
  all_goals first | omega | simp
theorem low15 (c : V) : (c &&& 15#32).toNat < 16 := by
  rw [BitVec.toNat_and]
  exact Nat.lt_of_le_of_lt Nat.and_le_right (by decide)
theorem shift15 (c : V) : (c &&& 4294967280#32) >>> 4 = c >>> 4 := by
  apply BitVec.eq_of_getLsbD_eq
  intro i hi
  simp only [BitVec.getLsbD_ushiftRight, BitVec.getLsbD_and]
  rcases i with _ | _ | _ | _ | _ | _ | _ | _ | _ | _ | _ | _ | _ | _ | _ | _ | _ | _ | _ | _ | _ | _ | _ | _ | _ | _ | _ | _ | _ | _ | _ | _ | i
  all_goals first | omega | simp
theorem nibI (c : V) : sm_nib (toI c) = toI (Sn 4 c) := by
  unfold sm_nib
  have h1 : Sn 4 c = (c >>> 4) ^^^ Sn 4 (c &&& 15#32) := by
    conv => lhs; rw [split4 c]
    rw [Sn_xor, Sn_low 4 (c &&& 4294967280#32) (fun i hi => ?_), shift15]
    rw [BitVec.getLsbD_and]
    rcases i with _ | _ | _ | _ | i
    all_goals first | omega | simp
  rw [lit15, andI, shr4]
  have h2 : (toI (c &&& 15#32)).toNat = (c &&& 15#32).toNat := by unfold toI; omega
  rw [h2, ← sm_tab_it _ (low15 c)]
  have h3 : (((c &&& 15#32).toNat : Nat) : Int) = toI (c &&& 15#32) := rfl
  rw [h3, it_I, xorI, h1]
theorem bytI (c x : V) : sm_byt (toI c) (toI x) = toI (Sn 8 (c ^^^ x)) := by
  unfold sm_byt
  rw [show toI x % 4294967296 = toI x from Int.emod_eq_of_lt (toI_ge x) (toI_lt x), xorI, nibI, nibI, ← Sn_add]
def ch (x : Int) : V := BitVec.ofInt 32 x
theorem ch_I {x : Int} (h : 0 ≤ x ∧ x < 256) : toI (ch x) = x := toI_of h.1 (by omega)
def row (c : V) (l : List Int) : V := l.foldl (fun c x => Sn 8 (c ^^^ ch x)) c
theorem rowI : ∀ (l : List Int) (c : V), Bytes l → sm_rowc (toI c) l = toI (row c l)
  | [], c, _ => rfl
  | x :: l, c, h => by
    have hx := h x (by simp)
    show sm_rowc (sm_byt (toI c) x) l = toI (row (Sn 8 (c ^^^ ch x)) l)
    have e : sm_byt (toI c) x = toI (Sn 8 (c ^^^ ch x)) := by
      conv => lhs; rw [← ch_I hx]
      exact bytI c (ch x)
    rw [e]
    exact rowI l _ (fun y hy => h y (by simp [hy]))
def F : V := 4294967295#32
theorem litF : (4294967295 : Int) = toI F := rfl
def crc (l : List Int) : V := F ^^^ row F l
theorem crcI {l : List Int} (h : Bytes l) : sm_sumf [l] = toI (crc l) := by
  unfold sm_sumf crc
  simp only [List.foldl_cons, List.foldl_nil]
  rw [litF, rowI l F h, xorI]
theorem row_append (c : V) (a b : List Int) : row c (a ++ b) = row (row c a) b := by unfold row; rw [List.foldl_append]
end Go.Proofs.Ytpehkbkbfpbolaa.Cr
