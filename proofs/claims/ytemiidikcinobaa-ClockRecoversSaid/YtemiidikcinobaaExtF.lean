/-
  'keep.bitString' with the bound 400 returns some bits, at most 400; 'keep.within' returns a number below its bound; 'keep.clockWorks' returns true. Nothing that was there is turned.
-/
import Derived.Test.YtemiidikcinobaaExtE
import Derived.Laws.BytesArg
import Derived.Lib.ConvBytes
namespace Go.Proofs.Ytemiidikcinobaa.Ext
open Go Go.RowKit Go.Proofs.YtemiidikcinobaaW.PrintWords

set_option maxHeartbeats 400000 in
theorem cut_any (s : ByteArray) (w : World) (hs : s.size ≤ 9223372036854775807) :
    Calls Try.prog 20 #[.string s, .int .i64 400] w fun e w' => ∃ t : ByteArray, t.size ≤ 400 ∧ e = .returned (.string t) ∧ w = w' := by
  by_cases h : s.size ≤ 400
  · go_enter Try.func20, Try.ntmps20
    go_wp2
    all_goals
      go_ret
      first
        | exact ⟨_, by simp only [ByteArray.size_extract]; omega, rfl, rfl⟩
  · go_enter Try.func20, Try.ntmps20
    go_wp2
    all_goals
      go_ret
      first
        | exact ⟨_, by simp only [ByteArray.size_extract]; omega, rfl, rfl⟩

theorem within_num (x n : Int) (h0 : 0 < n) (h1 : n ≤ 1000) : 0 ≤ wrap64 ((IntKind.u64.wrap x).tmod n) ∧ wrap64 ((IntKind.u64.wrap x).tmod n) < n := by
  have h : 0 ≤ IntKind.u64.wrap x := by
    simp [IntKind.wrap, IntKind.bits, IntKind.signed]
    omega
  rw [IntWalk.rem_in _ _ h]
  have a := Int.emod_nonneg (IntKind.u64.wrap x) (show n ≠ 0 by omega)
  have b := Int.emod_lt_of_pos (IntKind.u64.wrap x) h0
  generalize IntKind.u64.wrap x % n = r at *
  unfold wrap64
  omega

set_option maxHeartbeats 400000 in
theorem within_any (x n : Int) (w : World) (h0 : 0 < n) (h1 : n ≤ 1000) :
    Calls Try.prog 10 #[.int .i64 x, .int .i64 n] w fun e w' => ∃ v : Int, 0 ≤ v ∧ v < n ∧ e = .returned (.int .i64 v) ∧ w = w' := by
  go_enter Try.func10, Try.ntmps10
  go_wp2
  go_ret
  obtain ⟨a, b⟩ := within_num x n h0 h1
  exact ⟨_, a, b, rfl, rfl⟩

set_option maxHeartbeats 400000 in
theorem works_any (w : World) :
    Calls Try.prog 11 #[] w fun e w' => e = .returned (.bool true) ∧ Below w.heap.size w w' := by
  go_enter Try.func11, Try.ntmps11
  go_wp2_with fail
  refine (encode_any ⟨#[48, 49]⟩ _ (by decide) (by decide)).mono ?_
  rintro e w' ⟨rfl, hb⟩
  have HB := Lib.hid hb
  clear hb
  go_wp2
  go_ret
  exact ⟨rfl, HB.out⟩

theorem and_one (x : UInt8) : bits .and .u8 (x.toNat : Int) 1 = 0 ∨ bits .and .u8 (x.toNat : Int) 1 = 1 := by
  have h : ∀ n : Fin 256, bits .and .u8 (n.val : Int) 1 = 0 ∨ bits .and .u8 (n.val : Int) 1 = 1 := by decide +kernel
  exact h ⟨x.toNat, x.toNat_lt⟩

/-- The cells of a row hold these bytes, and can be written. -/
def Holds (W : World) (g n : Nat) (vs : List UInt8) : Prop := vs.length = n ∧ ∀ j, j < n → W.cell? ⟨g, j, none⟩ = some (.int .u8 ((vs.getD j 0).toNat : Int)) ∧ W.frozen? ⟨g, j, none⟩ = false

def BitsPost (w : World) (e : Ending) (w' : World) : Prop := ∃ b : List UInt8, goodB b = true ∧ b.length ≤ 400 ∧ e = .returned (.string ⟨b.toArray⟩) ∧ Below w.heap.size w w'

theorem bytes_holds (W : World) (e : TypeId) (s : ByteArray) : Holds (Lib.bytesWorld W e s) W.heap.size s.size s.data.toList := by
  refine ⟨data_length s, fun j hj => ⟨Lib.bytesWorld_cell W e s j hj, ?_⟩⟩
  have h := Lib.bytesWorld_at_new W e s
  have hs : s.size ≤ (Lib.bytesCells W e s).size := by
    simp [Lib.bytesCells]
  simp [World.frozen?, h]
  omega

theorem holds_set {W : World} {g n k : Nat} {vs : List UInt8} (h : Holds W g n vs) (hk : k < n) (r : UInt8) : Holds (W.setCell ⟨g, k, none⟩ (.int .u8 (r.toNat : Int))) g n (vs.set k r) := by
  refine ⟨by rw [List.length_set]; exact h.1, fun j hj => ?_⟩
  obtain ⟨h1, h2⟩ := h.2 j hj
  have hl := h.1
  refine ⟨?_, by rw [World.frozen?_setCell]; exact h2⟩
  by_cases e : j = k
  · subst e
    rw [World.cell?_setCell_same _ _ _ h1]
    simp [List.getD_eq_getElem?_getD, show j < vs.length by omega]
  · rw [World.cell?_setCell_other _ _ _ _ (by intro he; injection he with _ h3 _; exact e h3.symm), h1]
    simp [List.getD_eq_getElem?_getD, Ne.symm e]

theorem goodB_set {vs : List UInt8} {k : Nat} {r : UInt8} (h : goodB (vs.take k) = true) (hk : k < vs.length) (hr : r = 48 ∨ r = 49) : goodB ((vs.set k r).take (k + 1)) = true := by
  have e : (vs.set k r).take (k + 1) = vs.take k ++ [r] := by
    rw [List.take_succ_eq_append_getElem (by rw [List.length_set]; exact hk), List.getElem_set_self, List.take_set_of_le (Nat.le_refl _)]
  rw [e]
  unfold goodB at h ⊢
  rw [List.all_append, h]
  rcases hr with rfl | rfl <;> rfl

set_option maxHeartbeats 400000 in
set_option maxRecDepth 100000 in
theorem bitString_any (s : ByteArray) (w : World) (hs : s.size ≤ 9223372036854775807) :
    Calls Try.prog 9 #[.string s, .int .i64 400] w (BitsPost w) := by
  have kb := fun (t : ByteArray) (W : World) => print_bytes (P := Try.prog) 9 35 5 Try.underlying9 Try.underlying35 Try.underlying5 t W
  go_enter Try.func9, Try.ntmps9
  go_wp2_with fail
  refine (cut_any s _ hs).mono ?_
  rintro e w' ⟨t, ht, rfl, rfl⟩
  have hh := Lib.hid (bytes_holds w 5 t)
  have hb := Lib.hid (bytes_below (Below.refl w.heap.size w) (Nat.le_refl _) 5 t)
  go_wp2
  go_loopw [13] (fun i wr => ∃ (k : Nat) (vs : List UInt8), k ≤ t.size ∧ i = .int .i64 (k : Int) ∧ Hid (Holds wr w.heap.size t.size vs) ∧ Hid (goodB (vs.take k) = true) ∧ Hid (Below w.heap.size w wr)) (fun i _ => t.size - (intOf i).toNat)
  case atStart => exact ⟨0, t.data.toList, Nat.zero_le _, rfl, hh, rfl, hb⟩
  case round =>
    clear hh hb kb
    obtain ⟨k, vs, hk, rfl, HH, HG, HB⟩ := hrel
    by_cases hlt : k < t.size
    · obtain ⟨hc, hf⟩ := HH.out.2 k hlt
      have hlen := HH.out.1
      have HN := Lib.hid hlen
      clear hlen
      generalize vs.getD k 0 = x at hc
      rcases and_one x with hx | hx
      · go_wp2
        go_roundw
        case rel => exact ⟨k + 1, vs.set k 48, by omega, by go_num, holds_set HH.out hlt 48, goodB_set HG.out (by rw [HN.out]; exact hlt) (.inl rfl), HB.out.setCell (Nat.le_refl _) _⟩
        case measure => simp [intOf]; omega
      · go_wp2
        go_roundw
        case rel => exact ⟨k + 1, vs.set k 49, by omega, by go_num, holds_set HH.out hlt 49, goodB_set HG.out (by rw [HN.out]; exact hlt) (.inr rfl), HB.out.setCell (Nat.le_refl _) _⟩
        case measure => simp [intOf]; omega
    · have hn := HH.out.1
      have hgd : goodB vs = true := by
        have h := HG.out
        rwa [List.take_of_length_le (by omega)] at h
      have hcv := run_convert_bytes_arg (P := Try.prog) wr 35 5 Try.underlying35 Try.underlying5 w.heap.size 0 t.size (grownCap w t.size 0 5) (vs.map fun c => (c.toNat : Int)) (by simp [hn]) (fun i hi => by
        have h := (HH.out.2 i hi).1
        rw [Nat.zero_add, h]
        have hi2 : i < vs.length := by omega
        simp [List.getD_eq_getElem?_getD, List.getElem?_eq_getElem hi2]) 9 Try.underlying9
      rw [strOfNums_map] at hcv
      have HV := Lib.hid (show goodB vs = true ∧ vs.length ≤ 400 from ⟨hgd, by omega⟩)
      clear hn hgd
      go_wp2
      go_ret
      exact ⟨vs, HV.out.1, HV.out.2, rfl, HB.out⟩

end Go.Proofs.Ytemiidikcinobaa.Ext
