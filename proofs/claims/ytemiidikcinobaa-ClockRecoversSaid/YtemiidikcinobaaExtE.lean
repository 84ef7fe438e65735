/-
  'clock.Encode' of at most 8192 bits returns their symbols and no error, and turns nothing that was there.
-/
import Derived.Test.YtemiidikcinobaaExtD
import Derived.Deep.RegionLaw
namespace Go.Proofs.Ytemiidikcinobaa.Ext
open Go Go.RowKit Go.Proofs.YtemiidikcinobaaW.PrintWords

/-- The symbols of bits. -/
def encL : List UInt8 → List UInt8
  | [] => []
  | c :: l => (c ^^^ 1) :: c :: encL l

theorem encL_append (a b : List UInt8) : encL (a ++ b) = encL a ++ encL b := by
  induction a with
  | nil => rfl
  | cons c l ih => simp [encL, ih]

theorem encL_length (a : List UInt8) : (encL a).length = 2 * a.length := by
  induction a with
  | nil => rfl
  | cons c l ih => simp [encL, ih]; omega

theorem good_at (s : ByteArray) (hg : goodB s.data.toList = true) (k : Nat) (h : k < s.size) : s[k]'h = 48 ∨ s[k]'h = 49 := by
  unfold goodB at hg
  rw [List.all_eq_true] at hg
  have := hg (s[k]'h) (List.mem_of_getElem? (get_list s k h))
  simpa using this

theorem row_two (W : World) (a b : UInt8) : Kd.C (Kd.int .u8) (W.alloc (.cells #[.int .u8 (a.toNat : Int), .int .u8 (b.toNat : Int)] 5)) (some ⟨W.heap.size, 0, none⟩) 2 [(a.toNat : Int), (b.toNat : Int)] := by
  have h := own_lit_of (enc := Value.int .u8) W W.heap.size 5 [(a.toNat : Int), (b.toNat : Int)] (Nat.le_refl _) (by simp)
  have h2 : Kd.R (Kd.int .u8) 5 _ W.heap.size (fun _ => True) _ _ := Kd.R_of_own h (fun _ _ => trivial)
  exact (Kd.R_reads' h2).2.2

def EncPost (s : ByteArray) (w : World) (e : Ending) (w' : World) : Prop :=
  e = .returned (.tuple #[.string ⟨(encL s.data.toList).toArray⟩, .int .i64 0]) ∧ Below w.heap.size w w'

theorem encPost {s : ByteArray} {w w' : World} {l : List UInt8} (h : encL s.data.toList = l) (hb : Below w.heap.size w w') :
    EncPost s w (.returned (.tuple #[.string ⟨l.toArray⟩, .int .i64 0])) w' := by
  unfold EncPost
  rw [h]
  exact ⟨rfl, hb⟩

set_option maxHeartbeats 1000000 in
set_option maxRecDepth 100000 in
theorem encode_any (s : ByteArray) (w : World) (hs : s.size ≤ 8192) (hgood : goodB s.data.toList = true) :
    Calls Try.prog 12 #[.string s] w (EncPost s w) := by
  have hg := good_any s w (by omega)
  rw [hgood] at hg
  have HG := Lib.hid hgood
  clear hgood
  have hmk : ∀ wx : World, (Instr.makeSlice 35 (.int .i64 0) (.int .i64 (2 * (s.size : Int)))).run Try.prog wx = .ok (.slice (some ⟨wx.heap.size, 0, none⟩) 0 (2 * (s.size : Int)).toNat) (wx.alloc (.cells (madeCells #[.int .u8 0] ((2 * (s.size : Int)).toNat)) 5)) := by
    intro wx
    obtain ⟨i, hi, z0, z1, z2⟩ := info_parts info5
    have h := run_make (P := Try.prog) wx 35 5 i (.int .u8 0) Try.underlying35 hi z0 .i64 .i64 0 (2 * (s.size : Int)) (by omega) (by omega) (by rw [z2]; omega) (by omega)
    rw [h, z1, Nat.mul_one]
    rfl
  go_enter Try.func12, Try.ntmps12
  go_wp2_with fail
  refine hg.mono ?_
  rintro e w' ⟨rfl, rfl⟩
  go_wp2_with fail
  have hrow : Kd.R (Kd.int .u8) 5 (w.alloc (.cells (madeCells #[.int .u8 0] (2 * s.size)) 5)) w.heap.size (fun _ => True) (.slice (some ⟨w.heap.size, 0, none⟩) 0 (2 * s.size)) [] :=
    Kd.R_of_own (World.ownsRow_made w _ (2 * s.size) (Nat.le_refl _) (by unfold maxLen; omega) (by rw [size_madeCells, Nat.mul_one])) (fun _ _ => trivial)
  have HR := Lib.hid hrow
  clear hrow hmk hg
  go_loopw [4, 18] (fun v i wr => ∃ (k : Nat) (acc : List UInt8), k ≤ s.size ∧ i = .int .i64 (k : Int) ∧ Hid (acc.length = 2 * k) ∧ Hid (encL s.data.toList = acc ++ encL (s.data.toList.drop k)) ∧ Hid (Kd.R (Kd.int .u8) 5 wr w.heap.size (fun _ => True) v (acc.map fun c => (c.toNat : Int))) ∧ Hid (Below w.heap.size w wr)) (fun _ i _ => s.size - (intOf i).toNat)
  case atStart => exact ⟨0, [], by omega, rfl, rfl, rfl, HR, (Below.refl _ _).alloc (Nat.le_refl _) _⟩
  case round =>
    clear HR
    obtain ⟨k, acc, hk, rfl, HK, HP, HO, HB⟩ := hrel
    by_cases hlt : k < s.size
    · have HD2 := Lib.hid (drop_cons s k hlt)
      obtain ⟨a, b, hq, hx, hab⟩ : ∃ a b : UInt8, ((s[k]'hlt).toNat : Int) = (b.toNat : Int) ∧ bits .xor .u8 (b.toNat : Int) 1 = (a.toNat : Int) ∧ s[k]'hlt = b ∧ s[k]'hlt ^^^ 1 = a := by
        rcases good_at s HG.out k hlt with h | h
        · exact ⟨49, 48, by rw [h], by kernel_rfl, h, by rw [h]; rfl⟩
        · exact ⟨48, 49, by rw [h], by kernel_rfl, h, by rw [h]; rfl⟩
      have HAB := Lib.hid hab
      clear hab
      go_wp2_with fail
      have hC := row_two wr a b
      have HCr := Lib.hid hC
      have hal : acc.length ≤ 16384 := by have := HK.out; omega
      clear hC
      go_region_law ((refine Kd.R_append_rows_step (Kd.int .u8) (Rr := fun x cs => cs = [Value.int .u8 x]) (w0 := w) w.heap.size (by rfl) (.tmp 21) (.tmp 29) 35 5 (.int .u8 0) 1 rfl Try.underlying35 info5 rfl (by decide) (by omega) u4 (acc.map fun c => (c.toNat : Int)) [(a.toNat : Int), (b.toNat : Int)] (some ⟨wr.heap.size, 0, none⟩) 2 2 (fun _ => True) (fun _ => False) rfl rfl ?aO ?aR ?aM (fun _ hk => hk.elim) (fun _ _ => trivial) ?aB ?aS ?aL ?_; (case aO => exact (by (with_reducible repeat (first | apply Kd.R_alloc | apply Kd.R_drewN | apply Kd.R_drew)); exact HO)); (case aR => exact HCr); (case aM => exact (fun _ _ h => h)); (case aB => exact (by repeat (first | exact HB | apply below_alloc | apply pw_below_drewN | apply below_drew1))); (case aS => exact (below_size (by repeat (first | exact HB | apply below_alloc | apply pw_below_drewN | apply below_drew1)))); (case aL => simp; omega); intro v1 w1 ho hb hg hat; have HO1 := Lib.hid ho; have HB1 := Lib.hid hb; clear ho hb hg hat HO HB))
      all_goals
        go_wp2
        go_roundw
        case rel =>
          refine ⟨k + 1, acc ++ [a, b], by omega, by go_num, ?_, ?_, ?_, HB1⟩
          · show _ = _; have := HK.out; simp; omega
          · show _ = _
            obtain ⟨h1, h2⟩ := HAB.out
            rw [HP.out, HD2.out, encL, h1, ← h2, h1]; simp
          · have h := HO1.out; show Kd.R _ _ _ _ _ _ _; simpa using h
        case measure => simp [intOf]; omega
    · have hfin : encL s.data.toList = acc := by
        rw [HP.out, List.drop_eq_nil_of_le (by rw [data_length]; omega)]; simp [encL]
      have HF := Lib.hid hfin
      clear hfin
      have hcv := own_string (P := Try.prog) Try.underlying35 Try.underlying5 Try.underlying9 (Kd.own_of_R HO.out)
      rw [strOfNums_map] at hcv
      go_wp2
      go_ret2
      exact encPost HF.out HB.out

end Go.Proofs.Ytemiidikcinobaa.Ext
