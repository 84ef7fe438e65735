/-
  'clock.Decode' answers as the plain function 'decF' of the bytes says, and turns nothing that was there. No condition but a string's greatest length.
-/
import Derived.Test.YtemiidikcinobaaExtA
import Derived.Deep.LoopGhost
import Derived.Deep.QuietTactic
import Derived.BigQuiet
import Derived.OwnWalk
import Derived.Laws.MakeOwn
import Derived.Outline
import Derived.IntWalk
namespace Go.Proofs.Ytemiidikcinobaa.Ext
open Go Go.RowKit Go.Proofs.YtemiidikcinobaaW.PrintWords

/-- The second bytes of the pairs, if both bytes of each pair differ. -/
def pairs : List UInt8 → Option (List UInt8)
  | a :: b :: l => if a = b then none else (pairs l).map (b :: ·)
  | _ => some []

def decF (l : List UInt8) : List UInt8 × Int :=
  if 16384 < l.length then ([], 2) else if goodB l = false then ([], 3) else if l.length % 2 ≠ 0 then ([], 9) else
    match pairs l with
    | none => ([], 11)
    | some o => (o, 0)

def DecPost (s : ByteArray) (w : World) (e : Ending) (w' : World) : Prop :=
  e = .returned (.tuple #[.string ⟨(decF s.data.toList).1.toArray⟩, .int .i64 (decF s.data.toList).2]) ∧ Below w.heap.size w w'

theorem decPost {s : ByteArray} {w w' : World} {l : List UInt8} {n : Int} (h : decF s.data.toList = (l, n)) (hb : Below w.heap.size w w') :
    DecPost s w (.returned (.tuple #[.string ⟨l.toArray⟩, .int .i64 n])) w' := by
  unfold DecPost
  rw [h]
  exact ⟨rfl, hb⟩

theorem info5 : (Try.prog.info? 5).map (fun i => (i.zero, i.size, i.bytes)) = some (some (.int .u8 0), 1, 1) := by kernel_rfl

theorem drop_two (s : ByteArray) (k : Nat) (h : k + 1 < s.size) : s.data.toList.drop k = (s[k]'(by omega)) :: (s[k+1]'h) :: s.data.toList.drop (k + 2) := by
  rw [drop_cons s k (by omega), drop_cons s (k + 1) h]

theorem strOfNums_map (l : List UInt8) : strOfNums (l.map fun c => (c.toNat : Int)) = ⟨l.toArray⟩ := by
  unfold strOfNums
  have e : ((fun n : Int => UInt8.ofNat n.toNat) ∘ fun c : UInt8 => (c.toNat : Int)) = id := by funext c; simp
  rw [List.map_map, e, List.map_id]

set_option maxHeartbeats 1000000 in
set_option maxRecDepth 100000 in
theorem decode_any (s : ByteArray) (w : World) (hs : s.size ≤ 9223372036854775807) :
    Calls Try.prog 18 #[.string s] w (DecPost s w) := by
  have hlen : s.data.toList.length = s.size := by simp
  by_cases h1 : 16384 < s.size
  · have hd : decF s.data.toList = ([], 2) := by unfold decF; rw [hlen, if_pos h1]
    have HD := Lib.hid hd
    clear hd hlen
    go_enter Try.func18, Try.ntmps18
    go_wp2
    go_ret2
    exact decPost HD.out (Below.refl _ _)
  · cases h2 : goodB s.data.toList with
    | false =>
      have hd : decF s.data.toList = ([], 3) := by unfold decF; rw [hlen, if_neg h1, if_pos h2]
      have HD := Lib.hid hd
      have H2 := Lib.hid h2
      clear hd hlen h2
      have hg := good_any s w hs
      rw [H2.out] at hg
      go_enter Try.func18, Try.ntmps18
      go_wp2_with fail
      refine hg.mono ?_
      rintro e w' ⟨rfl, rfl⟩
      go_wp2
      go_ret2
      exact decPost HD.out (Below.refl _ _)
    | true =>
      have hg := good_any s w hs
      rw [h2] at hg
      by_cases h3 : s.size % 2 = 0
      · have hdec : decF s.data.toList = (match pairs s.data.toList with | none => ([], 11) | some o => (o, 0)) := by
          unfold decF; rw [hlen, if_neg h1, h2, if_neg (by decide), if_neg (by omega)]
        have HD := Lib.hid hdec
        have hb3 : ((s.size : Int) % 2 != 0) = false := by rw [bne_eq_false_iff_eq]; omega
        have hev : ∃ m : Nat, m + m = s.size := ⟨s.size / 2, by omega⟩
        clear hlen h2 hdec h3
        have hmk : ∀ wx : World, (Instr.makeSlice 35 (.int .i64 0) (.int .i64 ((s.size : Int) / 2))).run Try.prog wx = .ok (.slice (some ⟨wx.heap.size, 0, none⟩) 0 ((s.size : Int) / 2).toNat) (wx.alloc (.cells (madeCells #[.int .u8 0] (((s.size : Int) / 2).toNat)) 5)) := by
          intro wx
          obtain ⟨i, hi, z0, z1, z2⟩ := info_parts info5
          have h := run_make (P := Try.prog) wx 35 5 i (.int .u8 0) Try.underlying35 hi z0 .i64 .i64 0 ((s.size : Int) / 2) (by omega) (by omega) (by rw [z2]; omega) (by omega)
          rw [h, z1, Nat.mul_one]
          rfl
        go_enter Try.func18, Try.ntmps18
        go_wp2_with fail
        refine hg.mono ?_
        rintro e w' ⟨rfl, rfl⟩
        go_wp2_with fail
        have hrow : Kd.R (Kd.int .u8) 5 (w.alloc (.cells (madeCells #[.int .u8 0] (s.size / 2)) 5)) w.heap.size (fun _ => True) (.slice (some ⟨w.heap.size, 0, none⟩) 0 (s.size / 2)) [] :=
          Kd.R_of_own (World.ownsRow_made w _ (s.size / 2) (Nat.le_refl _) (by unfold maxLen; omega) (by rw [size_madeCells, Nat.mul_one])) (fun _ _ => trivial)
        have HR := Lib.hid hrow
        clear hrow hmk hg
        go_loopw [4, 5] (fun v i wr => ∃ (k : Nat) (acc : List UInt8), k ≤ s.size ∧ i = .int .i64 (k : Int) ∧ Hid (k = 2 * acc.length) ∧ Hid (pairs s.data.toList = (pairs (s.data.toList.drop k)).map (acc ++ ·)) ∧ Hid (Kd.R (Kd.int .u8) 5 wr w.heap.size (fun _ => True) v (acc.map fun c => (c.toNat : Int))) ∧ Hid (Below w.heap.size w wr)) (fun _ i _ => s.size - (intOf i).toNat)
        case atStart => exact ⟨0, [], by omega, rfl, rfl, (by show _ = _; simp), HR, (Below.refl _ _).alloc (Nat.le_refl _) _⟩
        case round =>
          clear HR
          obtain ⟨k, acc, hk, rfl, HK, HP, HO, HB⟩ := hrel
          obtain ⟨m, hm⟩ := hev
          have HM := Lib.hid hm
          clear hm
          by_cases hlt : k < s.size
          · have hlt2 : k + 1 < s.size := by have h1 := HK.out; have h2 := HM.out; omega
            have HD2 := Lib.hid (drop_two s k hlt2)
            have hki : (k : Int) + 1 < s.size := by omega
            by_cases heq : s[k] = s[k+1]
            · have hq : ((s[k].toNat : Int) == (s[k+1].toNat : Int)) = true := by rw [heq]; simp
              have hfin : decF s.data.toList = ([], 11) := by
                rw [HD.out, HP.out, HD2.out]; unfold pairs; rw [if_pos heq]; rfl
              have HF := Lib.hid hfin
              clear hfin heq
              go_wp2_with fail
              have e1 : IntKind.i64.wrap ((k : Int) + 1) = (k : Int) + 1 := IntWalk.i64_in _ (by omega)
              have e2 : 0 ≤ (k : Int) + 1 := by omega
              have e3 : ((k : Int) + 1).toNat = k + 1 := by omega
              go_quiet (fail)
              clear e1
              go_wp2_with fail
              go_ret2
              exact decPost HF.out (pw_below_drewN HB _)
            · have hq : ((s[k].toNat : Int) == (s[k+1].toNat : Int)) = false := by
                rw [beq_eq_false_iff_ne]; intro e; exact heq (UInt8.toNat_inj.1 (by omega))
              have hnext : Hid (pairs s.data.toList = (pairs (s.data.toList.drop (k + 2))).map ((acc ++ [s[k+1]]) ++ ·)) := by
                show _ = _
                rw [HP.out, HD2.out]
                conv => lhs; unfold pairs
                rw [if_neg heq, Option.map_map]
                congr 1
                funext x
                simp
              clear heq
              go_wp2_with fail
              have e1 : IntKind.i64.wrap ((k : Int) + 1) = (k : Int) + 1 := IntWalk.i64_in _ (by omega)
              have e2 : 0 ≤ (k : Int) + 1 := by omega
              have e3 : ((k : Int) + 1).toNat = k + 1 := by omega
              go_quiet (fail)
              clear e1
              have hsz : k < 16384 := by omega
              have hac : acc.length < 16384 := by have := HK.out; omega
              have HA := Lib.hid hac
              clear hac
              go_wp2_with (at_builtin; refine Kd.R_append (Kd.int .u8) (w0 := w) w.heap.size rfl (.tmp 34) (.tmp 39) 35 5 (.int .u8 0) 1 rfl Try.underlying35 info5 rfl (by decide) (by omega) u4 (acc.map fun c => (c.toNat : Int)) (s[k+1].toNat : Int) [.int .u8 (s[k+1].toNat : Int)] (fun _ => True) (fun _ => False) rfl rfl ?aP (fun _ hk => hk.elim) ?aF ?aO ?aB ?aS ?aL ?_; (case aP => exact rfl); (case aB => exact (by repeat (first | exact HB | apply below_alloc | apply pw_below_drewN | apply below_drew1))); (case aF => exact (fun _ _ => trivial)); (case aO => exact (by (with_reducible repeat (first | apply Kd.R_alloc | apply Kd.R_drewN | apply Kd.R_drew)); exact HO)); (case aS => exact (below_size (by repeat (first | exact HB | apply below_alloc | apply pw_below_drewN | apply below_drew1)))); (case aL => have := HA.out; simp; omega); intro v1 w1 ho hb hg hat; have HO1 := Lib.hid ho; have HB1 := Lib.hid hb; clear ho hb hg hat HO HB)
              go_roundw
              case rel =>
                refine ⟨k + 2, acc ++ [s[k+1]], by omega, by go_num, ?_, hnext, ?_, HB1⟩
                · show _ = _; have := HK.out; simp; omega
                · have h := HO1.out; show Kd.R _ _ _ _ _ _ _; simpa using h
              case measure => simp [intOf]; omega
          · have hfin : decF s.data.toList = (acc, 0) := by
              rw [HD.out, HP.out, List.drop_eq_nil_of_le (by simp; omega)]; simp [pairs]
            have HF := Lib.hid hfin
            clear hfin
            have hcv := own_string (P := Try.prog) Try.underlying35 Try.underlying5 Try.underlying9 (Kd.own_of_R HO.out)
            rw [strOfNums_map] at hcv
            go_wp2
            go_ret2
            exact decPost HF.out HB.out
      · have hd : decF s.data.toList = ([], 9) := by unfold decF; rw [hlen, if_neg h1, h2, if_neg (by decide), if_pos h3]
        have HD := Lib.hid hd
        have hb3 : ((s.size : Int) % 2 != 0) = true := by rw [bne_iff_ne]; omega
        clear hd hlen h2 h3
        go_enter Try.func18, Try.ntmps18
        go_wp2_with fail
        refine hg.mono ?_
        rintro e w' ⟨rfl, rfl⟩
        go_wp2
        go_ret2
        exact decPost HD.out (Below.refl _ _)

end Go.Proofs.Ytemiidikcinobaa.Ext
