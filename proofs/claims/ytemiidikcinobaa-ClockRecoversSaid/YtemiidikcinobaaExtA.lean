/-
  The two tests for bit strings ('clock.good' and the reference's 'IsBits') are the same Boolean function of the bytes. No condition.
-/
import Derived.Test.YtemiidikcinobaaShelf
import Derived.Test.YtemiidikcinobaaWWords
import Derived.WalkKit
import Derived.WalkSpells
import Derived.Lib.Hide
import Derived.Laws.RangeString
import Derived.Laws.Runes
import Derived.Laws.RangeAny
import Derived.LoopTactic
namespace Go.Proofs.Ytemiidikcinobaa.Ext
open Go Go.RowKit Go.Proofs.YtemiidikcinobaaW.PrintWords

/-- Are all bytes '0' or '1'? -/
def goodB (l : List UInt8) : Bool := l.all fun c => c == 48 || c == 49

theorem count_le : ∀ l : List UInt8, l.count 48 + l.count 49 ≤ l.length
  | [] => by simp
  | c :: l => by
    have h := count_le l
    rw [List.count_cons, List.count_cons, List.length_cons]
    by_cases h0 : c = 48
    · subst h0; simp; omega
    · by_cases h1 : c = 49
      · subst h1; simp; omega
      · simp [h0, h1]; omega

theorem goodB_count : ∀ l : List UInt8, (l.count 48 + l.count 49 = l.length) ↔ goodB l = true
  | [] => by simp [goodB]
  | c :: l => by
    have h := goodB_count l
    have hl := count_le l
    unfold goodB at h ⊢
    rw [List.count_cons, List.count_cons, List.length_cons, List.all_cons, Bool.and_eq_true, ← h]
    by_cases h0 : c = 48
    · subst h0; simp; omega
    · by_cases h1 : c = 49
      · subst h1; simp; omega
      · simp [h0, h1]; omega

theorem ret_bool {a b : Bool} (h : a = b) : Ending.returned (.bool a) = .returned (.bool b) := by rw [h]

set_option maxHeartbeats 400000 in
theorem good_any (s : ByteArray) (w : World) (hs : s.size ≤ 9223372036854775807) :
    Calls Try.prog 13 #[.string s] w fun e w' => e = .returned (.bool (goodB s.data.toList)) ∧ w = w' := by
  have hl := count_le s.data.toList
  have hlen : s.data.toList.length = s.size := by simp
  rw [hlen] at hl
  have hiff := goodB_count s.data.toList
  rw [hlen] at hiff
  have HI := Lib.hid hiff
  clear hiff hlen
  go_enter Try.func13, Try.ntmps13
  go_wp2_with fail
  refine (Try.strings_Count_one s 48 _).mono ?_
  rintro e w' ⟨rfl, rfl⟩
  go_wp2_with fail
  refine (Try.strings_Count_one s 49 _).mono ?_
  rintro e w' ⟨rfl, rfl⟩
  go_wp2_with fail
  go_ret
  refine ⟨ret_bool ?_, rfl⟩
  have hi := HI.out
  unfold Lib.countByte
  rw [Bool.eq_iff_iff, ← hi]
  generalize List.count 48 s.data.toList = a at *
  generalize List.count 49 s.data.toList = b at *
  have e : wrap64 ((a : Int) + (b : Int)) = ((a + b : Nat) : Int) := by unfold wrap64; omega
  rw [e]
  simp
  omega

theorem drop_cons (s : ByteArray) (k : Nat) (h : k < s.size) : s.data.toList.drop k = (s[k]'h) :: s.data.toList.drop (k + 1) := by
  rw [List.drop_eq_getElem_cons (by simpa using h)]; rfl

theorem goodB_cons (c : UInt8) (l : List UInt8) : goodB (c :: l) = ((c == 48 || c == 49) && goodB l) := rfl

/-- What 'next' hands back at a byte that is a bit, and at another. -/
theorem next_bit {P : Program} (w : World) (s : ByteArray) (pos : Nat) (ty : TypeId) (c : UInt8) (n : Int) (h : pos < s.size) (hc : s[pos]'h = c) (hn : (c.toNat : Int) = n) (hlt : c.toNat < 128) :
    (Instr.next (.pointer (some ⟨w.heap.size, 0, none⟩)) true ty).run P (w.iter s pos) = .ok (.tuple #[.bool true, .int .i64 pos, .int .i32 n]) (w.iter s (pos + 1)) := by
  subst hc hn
  exact run_next_ascii w s pos ty h hlt

theorem next_other {P : Program} (w : World) (s : ByteArray) (pos : Nat) (h : pos < s.size) (h0 : s[pos]'h ≠ 48) (h1 : s[pos]'h ≠ 49) :
    ∃ (r : Int) (p : Nat), (r != 48) = true ∧ (r != 49) = true ∧ ∀ ty, (Instr.next (.pointer (some ⟨w.heap.size, 0, none⟩)) true ty).run P (w.iter s pos) = .ok (.tuple #[.bool true, .int .i64 pos, .int .i32 r]) (w.iter s p) := by
  refine ⟨_, _, ?_, ?_, fun ty => run_next_any w s pos ty h⟩
  · rw [bne_iff_ne]
    by_cases ha : (s[pos]'h).toNat < 128
    · rw [decode_ascii s pos h ha]
      intro e
      exact h0 (UInt8.toNat_inj.1 (show (s[pos]'h).toNat = 48 from by simp at e; omega))
    · have := (decode_high s pos h (by omega)).1
      omega
  · rw [bne_iff_ne]
    by_cases ha : (s[pos]'h).toNat < 128
    · rw [decode_ascii s pos h ha]
      intro e
      exact h1 (UInt8.toNat_inj.1 (show (s[pos]'h).toNat = 49 from by simp at e; omega))
    · have := (decode_high s pos h (by omega)).1
      omega

set_option maxHeartbeats 400000 in
set_option maxRecDepth 1000000 in
theorem isBits_any (s : ByteArray) (w : World) :
    Calls Try.prog 17 #[.string s] w fun e w' => e = .returned (.bool (goodB s.data.toList)) ∧ Below w.heap.size w w' := by
  go_enter Try.func17, Try.ntmps17
  go_wp2
  go_loopw [4] (fun _ w' => ∃ pos : Nat, pos ≤ s.size ∧ w' = w.iter s pos ∧ Hid (goodB s.data.toList = goodB (s.data.toList.drop pos))) (fun _ w' => s.size - w'.iterPos w.heap.size)
  case atStart => exact ⟨0, Nat.zero_le _, rfl, rfl⟩
  case round =>
    obtain ⟨pos, hle, rfl, hg⟩ := hrel
    by_cases hp : pos < s.size
    · have hd := Lib.hid (drop_cons s pos hp)
      by_cases hb : s[pos] = 48 ∨ s[pos] = 49
      · have hgo : Hid (goodB s.data.toList = goodB (s.data.toList.drop (pos + 1))) := by
          have h1 : goodB s.data.toList = _ := hg
          have h2 : s.data.toList.drop pos = _ := hd
          show _ = _
          rw [h1, h2, goodB_cons]
          rcases hb with h | h <;> simp [h]
        clear hg hd
        rcases hb with hb | hb
        · have hnx : ∀ ty, (Instr.next (.pointer (some ⟨w.heap.size, 0, none⟩)) true ty).run Try.prog (w.iter s pos) = _ := fun ty => next_bit w s pos ty 48 48 hp hb rfl (by decide)
          clear hb
          go_wp2
          go_roundw
          case rel => exact ⟨pos + 1, by omega, rfl, hgo⟩
          case measure => simp; omega
        · have hnx : ∀ ty, (Instr.next (.pointer (some ⟨w.heap.size, 0, none⟩)) true ty).run Try.prog (w.iter s pos) = _ := fun ty => next_bit w s pos ty 49 49 hp hb rfl (by decide)
          clear hb
          go_wp2
          go_roundw
          case rel => exact ⟨pos + 1, by omega, rfl, hgo⟩
          case measure => simp; omega
      · have hgo : Hid (goodB s.data.toList = false) := by
          have h1 : goodB s.data.toList = _ := hg
          have h2 : s.data.toList.drop pos = _ := hd
          show _ = _
          rw [h1, h2, goodB_cons]
          have h3 : ¬ s[pos] = 48 := fun h => hb (.inl h)
          have h4 : ¬ s[pos] = 49 := fun h => hb (.inr h)
          simp [h3, h4]
        obtain ⟨r, p, hr0, hr1, hnx⟩ := next_other (P := Try.prog) w s pos hp (fun h => hb (.inl h)) (fun h => hb (.inr h))
        clear hg hd hb
        go_wp2
        go_ret
        exact ⟨ret_bool (show _ from hgo).symm, (Below.refl _ _).alloc (Nat.le_refl _) _⟩
    · have hnx : ∀ ty, (Instr.next (.pointer (some ⟨w.heap.size, 0, none⟩)) true ty).run Try.prog (w.iter s pos) = _ := fun ty => run_next_end w s pos ty hp
      have hgo : Hid (goodB s.data.toList = true) := by
        have h1 : goodB s.data.toList = _ := hg
        show _ = _
        rw [h1, List.drop_eq_nil_of_le (by simp; omega)]
        rfl
      clear hg
      go_wp2
      go_ret
      exact ⟨ret_bool (show _ from hgo).symm, (Below.refl _ _).alloc (Nat.le_refl _) _⟩

end Go.Proofs.Ytemiidikcinobaa.Ext
