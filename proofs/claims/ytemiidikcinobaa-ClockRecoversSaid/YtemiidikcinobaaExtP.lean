/-
  Bits that were encoded and stretched by widths within the bounds are recovered: in plain lists.
-/
import Derived.Test.YtemiidikcinobaaExtE
namespace Go.Proofs.Ytemiidikcinobaa.Ext
open Go Go.RowKit Go.Proofs.YtemiidikcinobaaW.PrintWords

def InR (p : Int) (ls : List Int) : Prop := ∀ y ∈ ls, (3 * p + 3) / 4 ≤ y ∧ y ≤ (3 * p - 1) / 2

theorem inR_at {p : Int} {ls : List Int} (h : InR p ls) (k : Nat) (hk : k < ls.length) : 3 * p ≤ 4 * ls.getD k 0 ∧ 2 * ls.getD k 0 < 3 * p := by
  have := h (ls[k]'hk) (List.getElem_mem hk)
  rw [List.getD_eq_getElem?_getD, List.getElem?_eq_getElem hk, Option.getD_some]
  omega

theorem inR_widths {p : Int} (p1 : 1 ≤ p) (p2 : p ≤ 40) {ls : List Int} (h : InR p ls) : widthsB ls = true := by
  unfold widthsB
  rw [List.all_eq_true]
  intro y hy
  have := h y hy
  simp
  omega

theorem good_cons {c : UInt8} {l : List UInt8} (h : goodB (c :: l) = true) : (c = 48 ∨ c = 49) ∧ goodB l = true := by
  unfold goodB at h ⊢
  rw [List.all_cons, Bool.and_eq_true] at h
  exact ⟨by simpa using h.1, h.2⟩

theorem good_append {a b : List UInt8} (ha : goodB a = true) (hb : goodB b = true) : goodB (a ++ b) = true := by
  unfold goodB at *
  rw [List.all_append, ha, hb]; rfl

theorem good_rep {c : UInt8} (h : c = 48 ∨ c = 49) (m : Nat) : goodB (repB m c) = true := by
  unfold goodB repB
  rw [List.all_eq_true]
  intro x hx
  rw [List.mem_replicate] at hx
  obtain ⟨_, rfl⟩ := hx
  rcases h with rfl | rfl <;> rfl

theorem good_enc : ∀ {b : List UInt8}, goodB b = true → goodB (encL b) = true
  | [], _ => rfl
  | c :: l, h => by
    obtain ⟨hc, hl⟩ := good_cons h
    have ih := good_enc hl
    unfold goodB at ih ⊢
    rw [encL, List.all_cons, List.all_cons, ih]
    rcases hc with rfl | rfl <;> rfl

theorem good_out (ws : List Int) : ∀ {l : List UInt8} (i : Nat), goodB l = true → goodB (strOut ws l i) = true
  | [], _, _ => rfl
  | c :: l, i, h => by
    obtain ⟨hc, hl⟩ := good_cons h
    exact good_append (good_rep hc _) (good_out ws (i + 1) hl)

theorem out_length {p : Int} (p1 : 1 ≤ p) (p2 : p ≤ 40) {ws : List Int} (h : InR p ws) (hw : 0 < ws.length) : ∀ (l : List UInt8) (i : Nat), (strOut ws l i).length ≤ 64 * l.length
  | [], _ => by simp [strOut]
  | c :: l, i => by
    have ih := out_length p1 p2 h hw l (i + 1)
    have hm := inR_at h (i % ws.length) (Nat.mod_lt _ hw)
    rw [strOut, List.length_append, repB_length, List.length_cons]
    omega

/-- No three equal bytes in a row. -/
def no3 : List UInt8 → Prop
  | a :: b :: l => (a = b → l.head? ≠ some a) ∧ no3 (b :: l)
  | _ => True

theorem no3_tail {c : UInt8} {l : List UInt8} (h : no3 (c :: l)) : no3 l := by
  cases l with
  | nil => trivial
  | cons d l => exact h.2

theorem xor_ne {c : UInt8} (h : c = 48 ∨ c = 49) : c ^^^ 1 ≠ c := by rcases h with rfl | rfl <;> decide

theorem no3_enc : ∀ {b : List UInt8}, goodB b = true → no3 (encL b)
  | [], _ => trivial
  | [c], h => by
    obtain ⟨hc, _⟩ := good_cons h
    exact ⟨fun e => absurd e (xor_ne hc), trivial⟩
  | c :: d :: l, h => by
    obtain ⟨hc, hl⟩ := good_cons h
    obtain ⟨hd, _⟩ := good_cons hl
    have ih := no3_enc hl
    refine ⟨fun e => absurd e (xor_ne hc), ?_, ih⟩
    intro e
    show some d ≠ some c
    intro e2
    injection e2 with e2
    exact xor_ne hd (by rw [← e, e2])

theorem pairs_enc : ∀ {b : List UInt8}, goodB b = true → pairs (encL b) = some b
  | [], _ => rfl
  | c :: l, h => by
    obtain ⟨hc, hl⟩ := good_cons h
    rw [encL, pairs, if_neg (xor_ne hc), pairs_enc hl]
    rfl

theorem runLen_rep (c : UInt8) (m : Nat) (hm : 1 ≤ m) (r : List UInt8) (hr : r.head? ≠ some c) : runLen (repB m c ++ r) = m := by
  obtain ⟨k, rfl⟩ : ∃ k, m = k + 1 := ⟨m - 1, by omega⟩
  unfold repB
  rw [List.replicate_succ, List.cons_append]
  simp only [runLen]
  have e : (List.replicate k c ++ r).takeWhile (· == c) = List.replicate k c ++ r.takeWhile (· == c) := by
    rw [List.takeWhile_append_of_pos]
    intro x hx
    rw [List.mem_replicate] at hx
    simp [hx.2]
  rw [e]
  have e2 : r.takeWhile (· == c) = [] := by
    cases r with
    | nil => rfl
    | cons d r =>
      have : d ≠ c := by simpa using hr
      simp [this]
  rw [e2]
  simp
  omega

theorem recSyms_rep (p : Int) (c : UInt8) (m : Nat) (hm : 1 ≤ m) (r : List UInt8) (hr : r.head? ≠ some c) (h1 : ¬ 4 * (m : Int) < 3 * p) (h2 : ¬ 6 * p ≤ 2 * (m : Int)) :
    recSyms p (repB m c ++ r) = (recSyms p r).map ((if 2 * (m : Int) < 3 * p then [c] else [c, c]) ++ ·) := by
  have hrun := runLen_rep c m hm r hr
  have hdrop : (repB m c ++ r).drop m = r := by
    rw [List.drop_append_of_le_length (by rw [repB_length]; exact Nat.le_refl _), List.drop_eq_nil_of_le (by rw [repB_length]; exact Nat.le_refl _)]
    rfl
  obtain ⟨k, rfl⟩ : ∃ k, m = k + 1 := ⟨m - 1, by omega⟩
  have hcons : repB (k + 1) c ++ r = c :: (repB k c ++ r) := by unfold repB; rw [List.replicate_succ]; rfl
  rw [hcons] at hrun hdrop ⊢
  conv => lhs; unfold recSyms
  rw [hrun, hdrop, if_neg (by omega)]

theorem out_head (ws : List Int) {p : Int} (p1 : 1 ≤ p) (h : InR p ws) (hw : 0 < ws.length) (d : UInt8) (l : List UInt8) (i : Nat) : (strOut ws (d :: l) i).head? = some d := by
  have hm := inR_at h (i % ws.length) (Nat.mod_lt _ hw)
  obtain ⟨k, hk⟩ : ∃ k, (ws.getD (i % ws.length) 0).toNat = k + 1 := ⟨(ws.getD (i % ws.length) 0).toNat - 1, by omega⟩
  rw [strOut, hk]
  unfold repB
  rw [List.replicate_succ]
  rfl

theorem out_head_ne (ws : List Int) {p : Int} (p1 : 1 ≤ p) (h : InR p ws) (hw : 0 < ws.length) (c : UInt8) (l : List UInt8) (i : Nat) (hl : l.head? ≠ some c) : (strOut ws l i).head? ≠ some c := by
  cases l with
  | nil => simp [strOut]
  | cons d l =>
    rw [out_head ws p1 h hw]
    exact hl

theorem recovers (ws : List Int) {p : Int} (p1 : 1 ≤ p) (h : InR p ws) (hw : 0 < ws.length) : ∀ (n : Nat) (l : List UInt8) (i : Nat), l.length ≤ n → no3 l → recSyms p (strOut ws l i) = some l := by
  intro n
  induction n with
  | zero =>
    intro l i hl _
    obtain rfl : l = [] := List.eq_nil_of_length_eq_zero (by omega)
    simp [strOut, recSyms]
  | succ n ih =>
    intro l i hl h3
    cases l with
    | nil => simp [strOut, recSyms]
    | cons c l =>
      have hm := inR_at h (i % ws.length) (Nat.mod_lt _ hw)
      obtain ⟨k, hk⟩ : ∃ k : Nat, ws.getD (i % ws.length) 0 = (k : Int) := ⟨(ws.getD (i % ws.length) 0).toNat, by omega⟩
      rw [hk] at hm
      have hl' : l.length ≤ n := by simpa using hl
      by_cases hc : l.head? = some c
      · cases l with
        | nil => cases hc
        | cons d l =>
          obtain rfl : d = c := by simpa using hc
          have hnot : l.head? ≠ some d := h3.1 rfl
          have hm2 := inR_at h ((i + 1) % ws.length) (Nat.mod_lt _ hw)
          obtain ⟨k2, hk2⟩ : ∃ k : Nat, ws.getD ((i + 1) % ws.length) 0 = (k : Int) := ⟨(ws.getD ((i + 1) % ws.length) 0).toNat, by omega⟩
          rw [hk2] at hm2
          have hh := ih l (i + 1 + 1) (by simp at hl'; omega) (no3_tail (no3_tail h3))
          rw [strOut, strOut, hk, hk2, Int.toNat_natCast, Int.toNat_natCast, ← List.append_assoc]
          have e : repB k d ++ repB k2 d = repB (k + k2) d := by unfold repB; rw [List.replicate_append_replicate]
          rw [e, recSyms_rep p d (k + k2) (by omega) _ (out_head_ne ws p1 h hw d l _ hnot) (by omega) (by omega), hh, if_neg (by omega)]
          rfl
      · have hh := ih l (i + 1) hl' (no3_tail h3)
        rw [strOut, hk, Int.toNat_natCast, recSyms_rep p c k (by omega) _ (out_head_ne ws p1 h hw c l _ hc) (by omega) (by omega), hh, if_pos (by omega)]
        rfl

theorem plain (b : List UInt8) (hg : goodB b = true) (hb : b.length ≤ 400) (p : Int) (p1 : 1 ≤ p) (p2 : p ≤ 40) (ls : List Int) (l1 : 1 ≤ ls.length) (l2 : ls.length ≤ 51) (hr : InR p ls) :
    strF (encL b) ls = (strOut ls (encL b) 0, 0) ∧ recF (strOut ls (encL b) 0) p = (b, 0) := by
  have hge := good_enc hg
  have hle := encL_length b
  have hlen := out_length p1 p2 hr l1 (encL b) 0
  constructor
  · unfold strF
    rw [if_neg (by omega), hge, if_neg (by decide), if_neg (by omega), inR_widths p1 p2 hr, if_neg (by decide)]
  · have hd : decF (encL b) = (b, 0) := by
      unfold decF
      rw [if_neg (by omega), hge, if_neg (by decide), if_neg (by omega), pairs_enc hg]
    unfold recF
    rw [if_neg (by omega), good_out ls 0 hge, if_neg (by decide), if_neg (by omega), recovers ls p1 hr l1 (encL b).length (encL b) 0 (Nat.le_refl _) (no3_enc hg)]
    simp [hd]

end Go.Proofs.Ytemiidikcinobaa.Ext
