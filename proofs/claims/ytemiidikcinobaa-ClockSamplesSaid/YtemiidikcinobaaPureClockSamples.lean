/-
  The law ClockSamples in plain words: the reference's Samples and Unsampled answer as the plain functions 'strF' and 'recF' do, as which Stretch and Recover answer. For every input.
-/
import Derived.Test.YtemiidikcinobaaCs3
namespace Go.Proofs.Ytemiidikcinobaa.Pure
open Go Go.RowKit Go.Proofs.Ytemiidikcinobaa.Cs Go.Proofs.YtemiidikcinobaaW.PrintWords Go.Proofs.YtemiidikcinobaaW.PrintLast
open Go.Proofs.Ytemiidikcinobaa.Ext

def mkR (r : List UInt8 × Int) : ByteArray × Int := (⟨r.1.toArray⟩, r.2)

theorem wr_in {a : Int} (h0 : -9223372036854775808 ≤ a) (h1 : a ≤ 9223372036854775807) : wrap64 a = a := by unfold wrap64; omega

def numsOf (l : List UInt8) : List Int := l.map fun c => (c.toNat : Int)

theorem bt_nat (s : ByteArray) (n : Nat) (h : n < s.size) : bt s (n : Int) = ((s[n]'h).toNat : Int) := by
  simp [bt, h]

theorem two_list (s : ByteArray) (k : Nat) (h : k + 1 < s.size) : (s.extract k (k + 2)).toList = [s[k]'(by omega), s[k+1]'h] := by
  rw [Lib.toList_data, Lib.extract_data, drop_two s k h, show k + 2 - k = 2 from by omega]
  rfl

theorem good_at (s : ByteArray) (hg : goodB s.data.toList = true) (k : Nat) (h : k < s.size) : s[k]'h = 48 ∨ s[k]'h = 49 := by
  unfold goodB at hg
  rw [List.all_eq_true] at hg
  have := hg (s[k]'h) (List.mem_of_getElem? (get_list s k h))
  simpa using this

theorem unclocked_l0 (s : ByteArray) (hg : goodB s.data.toList = true) (hs : s.size ≤ 16384) (hev : s.size % 2 = 0) : ∀ (d k j : Nat) (acc : List UInt8), 2 * j ≤ s.size → s.size - 2 * j ≤ 2 * d → d < k → acc.length = j →
    patchbayref1_Unclocked.l0 k s (numsOf acc) ((2 * j + 1 : Nat) : Int) = some (match pairs (s.data.toList.drop (2 * j)) with | none => mkR ([], 11) | some o => mkR (acc ++ o, 0)) := by
  intro d
  induction d with
  | zero =>
    intro k j acc hj hd hk ha
    obtain ⟨k, rfl⟩ : ∃ m, k = m + 1 := ⟨k - 1, by omega⟩
    simp only [patchbayref1_Unclocked.l0]
    rw [if_neg (by omega), List.drop_eq_nil_of_le (by rw [data_length]; omega)]
    show some (strOfNums (acc.map fun c => (c.toNat : Int)), (0 : Int)) = _
    rw [strOfNums_map]
    simp [pairs, mkR]
  | succ d ih =>
    intro k j acc hj hd hk ha
    obtain ⟨k, rfl⟩ : ∃ m, k = m + 1 := ⟨k - 1, by omega⟩
    by_cases hlt : 2 * j < s.size
    · have hlt2 : 2 * j + 1 < s.size := by omega
      have w1 : wrap64 (((2 * j + 1 : Nat) : Int) - 1) = ((2 * j : Nat) : Int) := by rw [wr_in (by omega) (by omega)]; omega
      have w2 : wrap64 (((2 * j + 1 : Nat) : Int) + 1) = ((2 * j + 2 : Nat) : Int) := by rw [wr_in (by omega) (by omega)]; omega
      have w3 : wrap64 (((2 * j + 1 : Nat) : Int) + 2) = ((2 * (j + 1) + 1 : Nat) : Int) := by rw [wr_in (by omega) (by omega)]; omega
      have hnext := ih k (j + 1) (acc ++ [s[2 * j + 1]]) (by omega) (by omega) (by omega) (by simp [ha])
      have hn : numsOf (acc ++ [s[2 * j + 1]]) = numsOf acc ++ [bt s ((2 * j + 1 : Nat) : Int)] := by
        rw [bt_nat s _ hlt2]; simp [numsOf]
      have hal : (numsOf acc).length = j := by simp [numsOf, ha]
      simp only [patchbayref1_Unclocked.l0]
      rw [w1, w2, w3, ← hn, hnext, hal]
      rw [if_pos (by omega), if_pos (by omega), if_pos (by omega), if_pos (by omega)]
      simp only [Int.toNat_natCast, two_list s (2 * j) hlt2]
      rw [drop_two s (2 * j) hlt2, show 2 * (j + 1) = 2 * j + 2 from by omega]
      rw [if_pos (show (0 : Int) ≤ ((2 * j + 1 : Nat) : Int) by omega), if_pos (show j < 140737488355328 by omega)]
      have h0 := good_at s hg (2 * j) (by omega)
      have h1 := good_at s hg (2 * j + 1) hlt2
      conv => rhs; unfold pairs
      generalize s[2 * j] = a at *
      generalize s[2 * j + 1] = b at *
      rcases h0 with rfl | rfl <;> rcases h1 with rfl | rfl
      · simp [mkR]
      · rw [if_neg (by decide), if_pos (by decide), if_neg (by decide)]
        cases pairs (List.drop (2 * j + 2) s.data.toList) <;> simp
      · rw [if_pos (by decide), if_neg (by decide)]
        cases pairs (List.drop (2 * j + 2) s.data.toList) <;> simp
      · simp [mkR]
    · simp only [patchbayref1_Unclocked.l0]
      rw [if_neg (by omega), List.drop_eq_nil_of_le (by rw [data_length]; omega)]
      show some (strOfNums (acc.map fun c => (c.toNat : Int)), (0 : Int)) = _
      rw [strOfNums_map]
      simp [pairs, mkR]

theorem unclocked (s : ByteArray) (k : Nat) (hk : 16384 < k) : patchbayref1_Unclocked.f k s = some (mkR (decF s.data.toList)) := by
  unfold patchbayref1_Unclocked.f decF patchbayref1_IsBits.f
  rw [data_length]
  by_cases h1 : 16384 < s.size
  · rw [if_pos (by omega), if_pos h1]; rfl
  · rw [if_neg (by omega), if_neg h1]
    simp only [Option.bind_some]
    cases h2 : goodB s.data.toList with
    | false => simp [mkR]
    | true =>
      rw [if_pos rfl, if_neg (show ¬ (true = false) by decide)]
      by_cases h3 : s.size % 2 = 0
      · rw [if_neg (by omega), if_neg (by omega)]
        have := unclocked_l0 s h2 (by omega) h3 s.size k 0 [] (by omega) (by omega) (by omega) rfl
        rw [List.drop_zero] at this
        refine Eq.trans this ?_
        cases pairs s.data.toList <;> simp
      · rw [if_pos (by omega), if_pos h3]; rfl

/-! ### Samples -/
theorem wr_succ (j : Nat) (h : j < 9223372036854775807) : wrap64 ((j : Int) + 1) = ((j + 1 : Nat) : Int) := by
  rw [wr_in (by omega) (by omega)]; omega

theorem numsOf_length (l : List UInt8) : (numsOf l).length = l.length := by simp [numsOf]

theorem numsOf_snoc (s : ByteArray) (q : Nat) (h : q < s.size) (acc : List UInt8) : numsOf acc ++ [bt s (q : Int)] = numsOf (acc ++ [s[q]'h]) := by
  rw [bt_nat s q h]; simp [numsOf]

/-- The inner loop puts the byte so often. -/
theorem samples_l2 (s : ByteArray) (ws : List Int) (n : Int) (q m : Nat) (hq : q < s.size) (hm : m ≤ 64) : ∀ (d k j : Nat) (acc : List UInt8), m - j = d → j ≤ m → d < k → acc.length + d ≤ 100000 →
    patchbayref1_Samples.l2 k s ws (numsOf acc) (q : Int) n (q : Int) (m : Int) (j : Int) = patchbayref1_Samples.l1 (k - d - 1) s ws (numsOf (acc ++ repB d (s[q]'hq))) n (wrap64 ((q : Int) + 1)) := by
  intro d
  induction d with
  | zero =>
    intro k j acc hd hj hk _
    obtain ⟨k, rfl⟩ : ∃ m, k = m + 1 := ⟨k - 1, by omega⟩
    simp only [patchbayref1_Samples.l2]
    rw [if_neg (by omega)]
    simp [repB]
  | succ d ih =>
    intro k j acc hd hj hk ha
    obtain ⟨k, rfl⟩ : ∃ m, k = m + 1 := ⟨k - 1, by omega⟩
    have hn := numsOf_snoc s q hq acc
    have w1 := wr_succ j (by omega)
    have := ih k (j + 1) (acc ++ [s[q]]) (by omega) (by omega) (by omega) (by simp; omega)
    simp only [patchbayref1_Samples.l2]
    rw [if_pos (show (j : Int) < (m : Int) by omega), if_pos (show (0 : Int) ≤ (q : Int) by omega), if_pos (show (q : Int) < (s.size : Int) by omega), numsOf_length, if_pos (show acc.length < 140737488355328 by omega), hn, w1, this, show k + 1 - (d + 1) - 1 = k - d - 1 from by omega]
    congr 2
    simp [repB, List.replicate_succ]

theorem repB_nil (c : UInt8) : repB 0 c = [] := rfl

theorem samples_l1 (s : ByteArray) (ws : List Int) (hw : widthsB ws = true) (hpos : 0 < ws.length) (hs : s.size ≤ 1024) : ∀ (d k q : Nat) (acc : List UInt8), s.size - q = d → q ≤ s.size → 100 * d < k → acc.length ≤ 64 * q →
    patchbayref1_Samples.l1 k s ws (numsOf acc) (s.size : Int) (q : Int) = some (mkR (acc ++ strOut ws (s.data.toList.drop q) q, 0)) := by
  intro d
  induction d with
  | zero =>
    intro k q acc hd hq hk ha
    obtain ⟨k, rfl⟩ : ∃ m, k = m + 1 := ⟨k - 1, by omega⟩
    simp only [patchbayref1_Samples.l1]
    rw [if_neg (by omega), List.drop_eq_nil_of_le (by rw [data_length]; omega)]
    show some (strOfNums (acc.map fun c => (c.toNat : Int)), (0 : Int)) = _
    rw [strOfNums_map]
    simp [strOut, mkR]
  | succ d ih =>
    intro k q acc hd hq hk ha
    obtain ⟨k, rfl⟩ : ∃ m, k = m + 1 := ⟨k - 1, by omega⟩
    have hlt : q < s.size := by omega
    obtain ⟨r, hr⟩ : ∃ r, q % ws.length = r := ⟨_, rfl⟩
    have hm : r < ws.length := by rw [← hr]; exact Nat.mod_lt _ hpos
    have e4 : (q : Int).tmod (ws.length : Int) = (r : Int) := by rw [← hr]; rfl
    obtain ⟨hlo, hhi⟩ := widthsB_at ws r hm hw
    obtain ⟨m, hm0⟩ : ∃ m : Nat, rd ws (r : Int) = (m : Int) := ⟨(rd ws (r : Int)).toNat, by omega⟩
    have h2 := samples_l2 s ws (s.size : Int) q m hlt (by omega) m k 0 acc (by omega) (by omega) (by omega) (by omega)
    have h3 := ih (k - m - 1) (q + 1) (acc ++ repB m s[q]) (by omega) (by omega) (by omega) (by rw [List.length_append, repB_length]; omega)
    simp only [patchbayref1_Samples.l1]
    rw [if_pos (show (q : Int) < (s.size : Int) by omega), if_neg (show ¬ (ws.length : Int) = 0 by omega), e4, if_pos (show (0 : Int) ≤ (r : Int) by omega), if_pos (show (r : Int) < (ws.length : Int) by omega), hm0]
    refine Eq.trans h2 ?_
    rw [wr_succ q (by omega), h3, drop_cons s q hlt, List.append_assoc]
    congr 4
    show repB m s[q] ++ _ = repB (ws.getD (q % ws.length) 0).toNat s[q] ++ _
    rw [hr]
    unfold rd at hm0
    rw [Int.toNat_natCast] at hm0
    rw [hm0, Int.toNat_natCast]

theorem samples_l0 (s : ByteArray) (ws : List Int) (hpos : 0 < ws.length) (hs : s.size ≤ 1024) (hws : ws.length ≤ 256) : ∀ (d k j : Nat), ws.length - j = d → j ≤ ws.length → d + 200000 < k → widthsB (ws.take j) = true →
    patchbayref1_Samples.l0 k s ws ws (ws.length : Int) (j : Int) = some (if widthsB ws = false then mkR ([], 1) else mkR (strOut ws s.data.toList 0, 0)) := by
  intro d
  induction d with
  | zero =>
    intro k j hd hj hk hw
    obtain ⟨k, rfl⟩ : ∃ m, k = m + 1 := ⟨k - 1, by omega⟩
    rw [List.take_of_length_le (by omega)] at hw
    simp only [patchbayref1_Samples.l0]
    rw [if_neg (show ¬ (j : Int) < (ws.length : Int) by omega)]
    refine Eq.trans (samples_l1 s ws hw hpos hs s.size k 0 [] (by omega) (by omega) (by omega) (by simp)) ?_
    rw [List.drop_zero, hw, if_neg (by decide)]
    rfl
  | succ d ih =>
    intro k j hd hj hk hw
    obtain ⟨k, rfl⟩ : ∃ m, k = m + 1 := ⟨k - 1, by omega⟩
    have hlt : j < ws.length := by omega
    simp only [patchbayref1_Samples.l0]
    rw [if_pos (show (j : Int) < (ws.length : Int) by omega), if_pos (show (0 : Int) ≤ (j : Int) by omega), if_pos (show (j : Int) < (ws.length : Int) by omega), wr_succ j (by omega)]
    by_cases c1 : rd ws (j : Int) < 1
    · rw [if_pos c1, widthsB_bad ws j hlt (.inl c1), if_pos rfl]; rfl
    · rw [if_neg c1]
      by_cases c2 : rd ws (j : Int) > 64
      · rw [if_pos c2, widthsB_bad ws j hlt (.inr c2), if_pos rfl]; rfl
      · rw [if_neg c2]
        refine ih k (j + 1) (by omega) (by omega) (by omega) ?_
        rw [widthsB_take ws j hlt, hw, decide_eq_true (show 1 ≤ rd ws (j : Int) by omega), decide_eq_true (show rd ws (j : Int) ≤ 64 by omega)]
        rfl

theorem samples (s : ByteArray) (ws : List Int) (k : Nat) (hk : 300000 < k) : patchbayref1_Samples.f k s ws = some (mkR (strF s.data.toList ws)) := by
  unfold patchbayref1_Samples.f strF
  rw [data_length]
  obtain ⟨k, rfl⟩ : ∃ m, k = m + 1 := ⟨k - 1, by omega⟩
  by_cases h1 : 1024 < s.size
  · rw [if_pos (show (s.size : Int) > 1024 by omega), if_pos (.inl h1)]; simp only [patchbayref1_Samples.j0]; rfl
  · rw [if_neg (show ¬ (s.size : Int) > 1024 by omega)]
    by_cases h2 : 256 < ws.length
    · rw [decide_eq_true (show (ws.length : Int) > 256 by omega), if_pos (.inr h2)]; simp only [patchbayref1_Samples.j0]; rfl
    · rw [decide_eq_false (show ¬ (ws.length : Int) > 256 by omega), if_neg (show ¬ (1024 < s.size ∨ 256 < ws.length) by omega)]
      simp only [patchbayref1_Samples.j0, patchbayref1_IsBits.f, Option.bind_some]
      rw [if_neg (show ¬ (false = true) by decide)]
      cases h3 : goodB s.data.toList with
      | false => simp [mkR]
      | true =>
        rw [if_pos rfl, if_neg (show ¬ (true = false) by decide)]
        by_cases h4 : ws.length = 0
        · rw [if_pos (show (ws.length : Int) = 0 by omega), if_pos h4]; rfl
        · rw [if_neg (show ¬ (ws.length : Int) = 0 by omega), if_neg h4]
          refine Eq.trans (samples_l0 s ws (by omega) (by omega) (by omega) ws.length k 0 (by omega) (by omega) (by omega) rfl) ?_
          split <;> rfl

/-! ### Unsampled -/
theorem one_str (s : ByteArray) (f : Nat) (h : f < s.size) (y : List UInt8) : (⟨y.toArray⟩ : ByteArray) ++ s.extract f (f + 1) = ⟨(y ++ [s[f]'h]).toArray⟩ := by
  have e := extract_one s f h
  have e2 : s.extract f (f + 1) = ⟨[s[f]'h].toArray⟩ := by
    rw [← e]
  rw [e2]
  apply ByteArray.ext
  rw [ByteArray.data_append]
  simp

theorem j2_false (s : ByteArray) (per : Int) (p1 : 1 ≤ per) (p2 : per ≤ 64) (hs : s.size ≤ 65536) (y : List UInt8) (f i k : Nat) (hf : f < s.size) (hfi : f ≤ i) (hi : i ≤ s.size) (hy : y.length ≤ 131072) :
    patchbayref1_Unsampled.j2 (k + 4) s per ⟨y.toArray⟩ (f : Int) (i : Int) false =
      if 4 * ((i : Int) - f) < 3 * per ∨ 6 * per ≤ 2 * ((i : Int) - f) then some (mkR ([], 11))
      else patchbayref1_Unsampled.l0 k s per ⟨(y ++ (if 2 * ((i : Int) - f) < 3 * per then [s[f]'hf] else [s[f]'hf, s[f]'hf])).toArray⟩ (i : Int) ((i + 1 : Nat) : Int) := by
  have w6 : wrap64 ((i : Int) + 1) = ((i + 1 : Nat) : Int) := wr_succ i (by omega)
  have w5 : wrap64 ((f : Int) + 1) = ((f + 1 : Nat) : Int) := wr_succ f (by omega)
  have w0 : wrap64 ((i : Int) - f) = (i : Int) - f := wr_in (by omega) (by omega)
  have w1 : wrap64 (3 * per) = 3 * per := wr_in (by omega) (by omega)
  have w2 : wrap64 (4 * ((i : Int) - f)) = 4 * ((i : Int) - f) := wr_in (by omega) (by omega)
  have w3 : wrap64 (2 * ((i : Int) - f)) = 2 * ((i : Int) - f) := wr_in (by omega) (by omega)
  have w4 : wrap64 (6 * per) = 6 * per := wr_in (by omega) (by omega)
  have ho := one_str s f hf y
  have ho2 := one_str s f hf (y ++ [s[f]'hf])
  have hz : (s.extract f (f + 1)).size = 1 := by rw [ByteArray.size_extract]; omega
  simp only [patchbayref1_Unsampled.j2]
  rw [if_neg (show ¬ (false = true) by decide), w0, w1, w2, w3]
  by_cases c1 : 4 * ((i : Int) - f) < 3 * per
  · rw [if_neg (show ¬ 3 * per ≤ 4 * ((i : Int) - f) by omega), if_pos (.inl c1)]
    simp only [patchbayref1_Unsampled.j3]
    rw [w1, w3, if_neg (show ¬ 3 * per ≤ 2 * ((i : Int) - f) by omega)]
    simp only [patchbayref1_Unsampled.j4]
    rw [if_neg (show ¬ (false = true) by decide)]
    simp only [patchbayref1_Unsampled.j5]
    rfl
  · rw [if_pos (show 3 * per ≤ 4 * ((i : Int) - f) by omega)]
    by_cases c2 : 6 * per ≤ 2 * ((i : Int) - f)
    · rw [if_pos (.inr c2), decide_eq_false (show ¬ 2 * ((i : Int) - f) < 3 * per by omega)]
      simp only [patchbayref1_Unsampled.j3]
      rw [w1, w3, w4, if_pos (show 3 * per ≤ 2 * ((i : Int) - f) by omega), decide_eq_false (show ¬ 2 * ((i : Int) - f) < 6 * per by omega)]
      simp only [patchbayref1_Unsampled.j4]
      rw [if_neg (show ¬ (false = true) by decide)]
      simp only [patchbayref1_Unsampled.j5]
      rfl
    · rw [if_neg (show ¬ (4 * ((i : Int) - f) < 3 * per ∨ 6 * per ≤ 2 * ((i : Int) - f)) by omega)]
      by_cases c3 : 2 * ((i : Int) - f) < 3 * per
      · rw [if_pos c3, decide_eq_true c3]
        simp only [patchbayref1_Unsampled.j3]
        rw [w1, w3, if_neg (show ¬ 3 * per ≤ 2 * ((i : Int) - f) by omega)]
        simp only [patchbayref1_Unsampled.j4]
        rw [if_pos True.intro]
        simp only [patchbayref1_Unsampled.j5]
        rw [if_neg (show ¬ (false = true) by decide), if_pos (show (0 : Int) ≤ (f : Int) by omega), w5, w6, if_pos (show (f : Int) ≤ ((f + 1 : Nat) : Int) by omega), if_pos (show ((f + 1 : Nat) : Int) ≤ (s.size : Int) by omega)]
        simp only [Int.toNat_natCast]
        rw [hz, ho, size_mk, if_pos (show y.length + 1 ≤ 9223372036854775807 by omega), if_neg (show ¬ (false = true) by decide)]
      · rw [if_neg c3, decide_eq_false c3]
        simp only [patchbayref1_Unsampled.j3]
        rw [w1, w3, w4, if_pos (show 3 * per ≤ 2 * ((i : Int) - f) by omega), decide_eq_true (show 2 * ((i : Int) - f) < 6 * per by omega)]
        simp only [patchbayref1_Unsampled.j4]
        rw [if_neg (show ¬ (false = true) by decide)]
        simp only [patchbayref1_Unsampled.j5, Bool.not_true]
        rw [if_neg (show ¬ (false = true) by decide), if_pos (show (0 : Int) ≤ (f : Int) by omega), w5, w6, if_pos (show (f : Int) ≤ ((f + 1 : Nat) : Int) by omega), if_pos (show ((f + 1 : Nat) : Int) ≤ (s.size : Int) by omega)]
        simp only [Int.toNat_natCast]
        rw [hz, ho, size_mk, size_mk, if_pos (show y.length + 1 ≤ 9223372036854775807 by omega), if_pos True.intro, List.length_append, List.length_singleton, if_pos (show y.length + 1 + 1 ≤ 9223372036854775807 by omega), ho2, List.append_assoc]
        rfl

/-- From a run's begin, the bytes so far being the same. -/
def SameFrom (s : ByteArray) (f i : Nat) : Prop := ∀ j, f ≤ j → j < i → s.data.toList[j]? = s.data.toList[f]?

theorem recSyms_cut (s : ByteArray) (per : Int) (f i : Nat) (hf : f < s.size) (hfi : f < i) (hi : i ≤ s.size) (hsame : SameFrom s f i) (hstop : i = s.size ∨ s.data.toList[i]? ≠ s.data.toList[f]?) :
    recSyms per (s.data.toList.drop f) = if 4 * ((i : Int) - f) < 3 * per ∨ 6 * per ≤ 2 * ((i : Int) - f) then none
      else (recSyms per (s.data.toList.drop i)).map ((if 2 * ((i : Int) - f) < 3 * per then [s[f]'hf] else [s[f]'hf, s[f]'hf]) ++ ·) := by
  have hd := drop_cons s f hf
  have hrun : runLen (s.data.toList.drop f) = i - f := by
    rw [hd]
    simp only [runLen]
    have := takeWhile_len (s[f]'hf) (s.data.toList.drop (f + 1)) (i - f - 1) (by rw [List.length_drop, data_length]; omega)
      (fun j hj => by
        rw [List.getElem?_drop, hsame (f + 1 + j) (by omega) (by omega), get_list s f hf])
      (by
        rcases hstop with h | h
        · left; rw [List.length_drop, data_length]; omega
        · right
          rw [List.getElem?_drop, show f + 1 + (i - f - 1) = i from by omega]
          rwa [get_list s f hf] at h)
    rw [this]; omega
  have hc : ((i - f : Nat) : Int) = (i : Int) - f := by omega
  rw [hd] at hrun
  rw [hd]
  conv => lhs; unfold recSyms
  rw [hrun, hc]
  by_cases c1 : 4 * ((i : Int) - f) < 3 * per ∨ 6 * per ≤ 2 * ((i : Int) - f)
  · rw [if_pos c1, if_pos c1]
  · rw [if_neg c1, if_neg c1]
    congr 2
    rw [← hd, List.drop_drop, show f + (i - f) = i from by omega]

def symsOf (per : Int) (acc l : List UInt8) : ByteArray × Int :=
  match recSyms per l with
  | none => mkR ([], 11)
  | some y => if (decF (acc ++ y)).2 = 0 then mkR ((decF (acc ++ y)).1, 0) else mkR ([], 11)

theorem symsOf_none {per : Int} {acc l : List UInt8} (h : recSyms per l = none) : symsOf per acc l = mkR ([], 11) := by unfold symsOf; rw [h]
theorem symsOf_map {per : Int} {acc l l2 z : List UInt8} (h : recSyms per l = (recSyms per l2).map (z ++ ·)) : symsOf per acc l = symsOf per (acc ++ z) l2 := by
  unfold symsOf
  rw [h]
  cases recSyms per l2 with
  | none => rfl
  | some y => simp

theorem unsampled_l0 (s : ByteArray) (per : Int) (p1 : 1 ≤ per) (p2 : per ≤ 64) (hs : s.size ≤ 65536) : ∀ (d k f i : Nat) (acc : List UInt8), s.size + 1 - i = d → i ≤ s.size + 1 → 5 * d + 20000 < k → acc.length ≤ 2 * f →
    ((f < i ∧ i ≤ s.size ∧ SameFrom s f i) ∨ (f = s.size ∧ i = s.size + 1) ∨ (s.size = 0 ∧ f = 0 ∧ i = 1)) →
    patchbayref1_Unsampled.l0 k s per ⟨acc.toArray⟩ (f : Int) (i : Int) = some (symsOf per acc (s.data.toList.drop f)) := by
  intro d
  induction d with
  | zero =>
    intro k f i acc hd hi hk ha hst
    obtain ⟨k, rfl⟩ : ∃ m, k = m + 1 := ⟨k - 1, by omega⟩
    have hfs : s.data.toList.drop f = [] := List.drop_eq_nil_of_le (by rw [data_length]; omega)
    have hu := unclocked ⟨acc.toArray⟩ k (by omega)
    simp only [patchbayref1_Unsampled.l0]
    rw [if_neg (show ¬ (i : Int) ≤ (s.size : Int) by omega), hu, hfs]
    simp only [Option.bind_some]
    unfold symsOf recSyms
    simp only [List.append_nil]
    by_cases hz : (decF acc).2 = 0
    · rw [if_pos hz, if_pos (show (mkR (decF acc)).2 = 0 from hz)]; rfl
    · rw [if_neg hz, if_neg (show ¬ (mkR (decF acc)).2 = 0 from hz)]; rfl
  | succ d ih =>
    intro k f i acc hd hi hk ha hst
    have hst2 : f < i ∧ i ≤ s.size ∧ SameFrom s f i := by
      rcases hst with h | h | h
      · exact h
      · omega
      · omega
    obtain ⟨hfi, his, hsame⟩ := hst2
    have hf : f < s.size := by omega
    obtain ⟨k, rfl⟩ : ∃ m, k = m + 5 := ⟨k - 5, by omega⟩
    have w1 := wr_succ i (by omega)
    simp only [patchbayref1_Unsampled.l0]
    rw [if_pos (show (i : Int) ≤ (s.size : Int) by omega)]
    by_cases hlt : i < s.size
    · rw [if_pos (show (i : Int) < (s.size : Int) by omega), if_pos (show (0 : Int) ≤ (i : Int) by omega), if_pos (show (0 : Int) ≤ (f : Int) by omega), if_pos (show (f : Int) < (s.size : Int) by omega), bt_nat s i hlt, bt_nat s f hf]
      by_cases heq : s[i] = s[f]
      · have hq : ((s[i].toNat : Int) == (s[f].toNat : Int)) = true := by rw [heq]; simp
        rw [hq]
        simp only [patchbayref1_Unsampled.j2]
        rw [if_pos True.intro, w1]
        refine ih (k + 3) f (i + 1) acc (by omega) (by omega) (by omega) ha (.inl ⟨by omega, by omega, ?_⟩)
        intro j h1 h2
        by_cases hj : j < i
        · exact hsame j h1 hj
        · obtain rfl : j = i := by omega
          rw [get_list s j hlt, get_list s f hf, heq]
      · have hq : ((s[i].toNat : Int) == (s[f].toNat : Int)) = false := by
          rw [beq_eq_false_iff_ne]; intro e; exact heq (UInt8.toNat_inj.1 (by omega))
        have hcut := recSyms_cut s per f i hf hfi (by omega) hsame (.inr (by
          rw [get_list s i hlt, get_list s f hf]; intro e; exact heq (Option.some.inj e)))
        rw [hq, j2_false s per p1 p2 hs acc f i k hf (by omega) (by omega) (by omega)]
        by_cases c : 4 * ((i : Int) - f) < 3 * per ∨ 6 * per ≤ 2 * ((i : Int) - f)
        · rw [if_pos c] at hcut
          rw [if_pos c, symsOf_none hcut]
        · rw [if_neg c] at hcut
          rw [if_neg c, symsOf_map hcut]
          refine ih k i (i + 1) _ (by omega) (by omega) (by omega) (by rw [List.length_append]; split <;> simp <;> omega) (.inl ⟨by omega, by omega, ?_⟩)
          intro j h1 h2
          obtain rfl : j = i := by omega
          rfl
    · have hcut := recSyms_cut s per f i hf hfi his hsame (.inl (by omega))
      rw [if_neg (show ¬ (i : Int) < (s.size : Int) by omega), j2_false s per p1 p2 hs acc f i k hf (by omega) (by omega) (by omega)]
      by_cases c : 4 * ((i : Int) - f) < 3 * per ∨ 6 * per ≤ 2 * ((i : Int) - f)
      · rw [if_pos c] at hcut
        rw [if_pos c, symsOf_none hcut]
      · rw [if_neg c] at hcut
        rw [if_neg c, symsOf_map hcut]
        exact ih k i (i + 1) _ (by omega) (by omega) (by omega) (by rw [List.length_append]; split <;> simp <;> omega) (.inr (.inl ⟨by omega, by omega⟩))

theorem unsampled (s : ByteArray) (per : Int) (k : Nat) (hk : 400000 < k) : patchbayref1_Unsampled.f k s per = some (mkR (recF s.data.toList per)) := by
  unfold patchbayref1_Unsampled.f recF patchbayref1_IsBits.f
  rw [data_length]
  obtain ⟨k, rfl⟩ : ∃ m, k = m + 1 := ⟨k - 1, by omega⟩
  by_cases h1 : 65536 < s.size
  · rw [if_pos (show (s.size : Int) > 65536 by omega), if_pos h1]; rfl
  · rw [if_neg (show ¬ (s.size : Int) > 65536 by omega), if_neg h1]
    simp only [Option.bind_some]
    cases h2 : goodB s.data.toList with
    | false => simp [mkR]
    | true =>
      rw [if_pos rfl, if_neg (show ¬ (true = false) by decide)]
      by_cases h3 : per < 1
      · rw [if_pos h3, if_pos (.inl h3)]; simp only [patchbayref1_Unsampled.j0]; rfl
      · rw [if_neg h3]
        by_cases h4 : 64 < per
        · rw [decide_eq_true (show per > 64 by omega), if_pos (.inr h4)]; simp only [patchbayref1_Unsampled.j0]; rfl
        · rw [decide_eq_false (show ¬ per > 64 by omega), if_neg (show ¬ (per < 1 ∨ 64 < per) by omega)]
          simp only [patchbayref1_Unsampled.j0]
          rw [if_neg (show ¬ (false = true) by decide)]
          have := unsampled_l0 s per (by omega) (by omega) (by omega) s.size k 0 1 [] (by omega) (by omega) (by omega) (by simp) (by
            by_cases hz : s.size = 0
            · exact .inr (.inr ⟨hz, rfl, rfl⟩)
            · refine .inl ⟨by omega, by omega, ?_⟩
              intro j h1 h2
              obtain rfl : j = 0 := by omega
              rfl)
          rw [List.drop_zero] at this
          refine Eq.trans this ?_
          unfold symsOf
          cases recSyms per s.data.toList with
          | none => rfl
          | some y =>
            simp only [List.nil_append]
            split <;> rfl

/-! ### The law -/
theorem fixed : strF [49, 48] [3, 2] = ([49, 49, 49, 48, 48], 0) := by decide

theorem ClockSamples : patchbaylaw1_ClockSamples.Pure := by
  intro a0 l1 a2 a3 _ _ _ _ _ _
  refine ⟨500000, ?_⟩
  unfold patchbaylaw1_ClockSamples.f clock_Stretch.f
  simp only [Option.bind_some]
  rw [fixed, if_pos rfl]
  obtain ⟨k, hk⟩ : ∃ k, k + 1 = 500000 := ⟨499999, rfl⟩
  rw [← hk]
  simp only [patchbaylaw1_ClockSamples.j0]
  rw [if_neg (by rw [Lib.toList_data]; decide), samples a0 l1 k (by omega), unsampled a2 a3 k (by omega)]
  unfold clock_Stretch.f clock_Recover.f
  simp only [Option.bind_some, mkR]
  simp

end Go.Proofs.Ytemiidikcinobaa.Pure
