/-
  'clock.Stretch' answers as the plain function 'strF' of the bytes and the widths says, and turns nothing that was there. No condition.
-/
import Derived.Test.YtemiidikcinobaaExtB
import Derived.StillTailTactics
import Derived.Deep.DeepFit
namespace Go.Proofs.Ytemiidikcinobaa.Ext
open Go Go.RowKit Go.Proofs.YtemiidikcinobaaW.PrintWords

theorem write_any (B b : Nat) (l : List UInt8) (s : ByteArray) (w : World) (h : Lib.IsBuilderF 37 5 B b (Lib.byteCells l) w) (hlen : l.length + s.size ≤ 140737488355328) (hBw : B ≤ w.heap.size) :
    Calls Try.prog 14 #[.pointer (some ⟨b, 0, none⟩), .string s] w fun e w' => e = .returned (.tuple #[.int .i64 s.size, .nilIface]) ∧ Lib.IsBuilderF 37 5 B b (Lib.byteCells (l ++ s.data.toList)) w' ∧ Below B w w' := by
  refine (Any.Builder_WriteString_f { Try.lays105 with } Try.Builder_Extra_105 B b (Lib.byteCells l) s w h (by rw [Lib.byteCells_length]; exact hlen) hBw).mono ?_
  rintro e w' ⟨he, hb, hB⟩
  refine ⟨he, ?_, hB⟩
  rw [Lib.byteCells_append, ← Lib.strCells_eq]
  exact .inr hb

/-- One byte so often. -/
def repB (m : Nat) (c : UInt8) : List UInt8 := List.replicate m c
theorem repB_length (m : Nat) (c : UInt8) : (repB m c).length = m := by simp [repB]

/-- Each byte as often as the widths, used in turn, say. -/
def strOut (ws : List Int) : List UInt8 → Nat → List UInt8
  | [], _ => []
  | c :: l, i => repB (ws.getD (i % ws.length) 0).toNat c ++ strOut ws l (i + 1)

def widthsB (ws : List Int) : Bool := ws.all fun x => decide (1 ≤ x) && decide (x ≤ 64)

def strF (l : List UInt8) (ws : List Int) : List UInt8 × Int :=
  if 1024 < l.length ∨ 256 < ws.length then ([], 2) else if goodB l = false then ([], 3) else if ws.length = 0 then ([], 1) else
    if widthsB ws = false then ([], 1) else (strOut ws l 0, 0)

def StrPost (s : ByteArray) (ws : List Int) (w : World) (e : Ending) (w' : World) : Prop :=
  e = .returned (.tuple #[.string ⟨(strF s.data.toList ws).1.toArray⟩, .int .i64 (strF s.data.toList ws).2]) ∧ Below w.heap.size w w'

theorem strPost {s : ByteArray} {ws : List Int} {w w' : World} {l : List UInt8} {n : Int} (h : strF s.data.toList ws = (l, n)) (hb : Below w.heap.size w w') :
    StrPost s ws w (.returned (.tuple #[.string ⟨l.toArray⟩, .int .i64 n])) w' := by
  unfold StrPost
  rw [h]
  exact ⟨rfl, hb⟩

theorem widthsB_take (ws : List Int) (k : Nat) (h : k < ws.length) : widthsB (ws.take (k + 1)) = (widthsB (ws.take k) && (decide (1 ≤ rd ws k) && decide (rd ws k ≤ 64))) := by
  rw [List.take_succ_eq_append_getElem h]
  unfold widthsB rd
  rw [List.all_append]
  simp [List.getD_eq_getElem?_getD, List.getElem?_eq_getElem h]

theorem widthsB_at (ws : List Int) (k : Nat) (h : k < ws.length) (ha : widthsB ws = true) : 1 ≤ rd ws k ∧ rd ws k ≤ 64 := by
  unfold widthsB at ha
  rw [List.all_eq_true] at ha
  have h1 := ha (ws[k]'h) (List.getElem_mem h)
  have e : rd ws k = ws[k]'h := by simp [rd, List.getD_eq_getElem?_getD, List.getElem?_eq_getElem h]
  rw [e]
  simpa using h1

theorem widthsB_bad (ws : List Int) (k : Nat) (h : k < ws.length) (hb : rd ws k < 1 ∨ 64 < rd ws k) : widthsB ws = false := by
  cases ha : widthsB ws with
  | false => rfl
  | true => have := widthsB_at ws k h ha; omega

theorem extract_one (s : ByteArray) (q : Nat) (h : q < s.size) : (s.extract q (q + 1)).data.toList = [s[q]'h] := by
  rw [Lib.extract_data]
  rw [drop_cons s q h]
  simp

theorem repeatL_one (c : UInt8) : ∀ m, Lib.repeatL [c] m = repB m c
  | 0 => rfl
  | m + 1 => by rw [Lib.repeatL, repeatL_one c m]; rfl

theorem isBuilderF_below {T e : TypeId} {B b : Nat} {bs : List Value} {w w' : World} (h : Lib.IsBuilderF T e B b bs w) (hb : Below w.heap.size w w') : Lib.IsBuilderF T e B b bs w' := by
  have one : ∀ p, Lib.BuilderAtF T e B b p bs w → Lib.BuilderAtF T e B b p bs w' := by
    intro p h
    have hlt := h.lt
    obtain ⟨hB, v, hbk, hown, hne⟩ := h
    exact ⟨hB, v, (hb.block b hlt).trans hbk, hown.kept (grown_of_below hb none) (by cases hv : v.ownBlock <;> simp), hne⟩
  exact h.elim (fun x => .inl (one _ x)) (fun x => .inr (one _ x))

theorem size_mk (l : List UInt8) : ByteArray.size ⟨l.toArray⟩ = l.length := by simp [ByteArray.size]

set_option maxHeartbeats 2000000 in
set_option maxRecDepth 100000 in
theorem stretch_any (s : ByteArray) (A : Option Addr) (c : Nat) (ws : List Int) (w : World) (hr : Kd.C (Kd.int .i64) w A ws.length ws) (_hc : ws.length ≤ c) :
    Calls Try.prog 5 #[.string s, .slice A ws.length c] w (StrPost s ws w) := by
  have hlen : s.data.toList.length = s.size := by simp
  have HR := Lib.hid hr
  clear hr
  by_cases h1 : 1024 < s.size
  · have hd : strF s.data.toList ws = ([], 2) := by unfold strF; rw [hlen, if_pos (.inl h1)]
    have HD := Lib.hid hd
    clear hd hlen
    go_enter Try.func5, Try.ntmps5
    go_wp2
    go_ret2
    exact strPost HD.out (Below.refl _ _)
  by_cases h2 : 256 < ws.length
  · have hd : strF s.data.toList ws = ([], 2) := by unfold strF; rw [hlen, if_pos (.inr h2)]
    have HD := Lib.hid hd
    clear hd hlen
    go_enter Try.func5, Try.ntmps5
    go_wp2
    go_ret2
    exact strPost HD.out (Below.refl _ _)
  have hg := good_any s w (by omega)
  cases h3 : goodB s.data.toList with
  | false =>
    have hd : strF s.data.toList ws = ([], 3) := by unfold strF; rw [hlen, if_neg (by omega), if_pos h3]
    rw [h3] at hg
    have HD := Lib.hid hd
    clear hd hlen h3
    go_enter Try.func5, Try.ntmps5
    go_wp2_with fail
    refine hg.mono ?_
    rintro e w' ⟨rfl, rfl⟩
    go_wp2
    go_ret2
    exact strPost HD.out (Below.refl _ _)
  | true =>
    rw [h3] at hg
    by_cases h4 : ws.length = 0
    · have hd : strF s.data.toList ws = ([], 1) := by unfold strF; rw [hlen, if_neg (by omega), h3, if_neg (by decide), if_pos h4]
      have HD := Lib.hid hd
      have hb4 : ((ws.length : Int) == 0) = true := by rw [beq_iff_eq]; omega
      clear hd hlen h3 h4
      go_enter Try.func5, Try.ntmps5
      go_wp2_with fail
      refine hg.mono ?_
      rintro e w' ⟨rfl, rfl⟩
      go_wp2
      go_ret2
      exact strPost HD.out (Below.refl _ _)
    · have hd : strF s.data.toList ws = if widthsB ws = false then ([], 1) else (strOut ws s.data.toList 0, 0) := by unfold strF; rw [hlen, if_neg (by omega), h3, if_neg (by decide), if_neg h4]
      have HD := Lib.hid hd
      have hb4 : ((ws.length : Int) == 0) = false := by rw [beq_eq_false_iff_ne]; omega
      have hpos : 0 < ws.length := by omega
      clear hd hlen h3 h4
      go_enter Try.func5, Try.ntmps5
      go_wp2_with fail
      refine hg.mono ?_
      rintro e w' ⟨rfl, rfl⟩
      go_wp2
      go_loop [26] (fun i => ∃ k : Nat, k ≤ ws.length ∧ i = .int .i64 (k : Int) ∧ Hid (widthsB (ws.take k) = true)) (fun i => ws.length - (intOf i).toNat)
      case atStart => exact ⟨0, Nat.zero_le _, rfl, rfl⟩
      case round =>
        obtain ⟨k, hk, rfl, HW⟩ := hrel
        by_cases hlt : k < ws.length
        · obtain ⟨ad, rfl, hcell⟩ := Kd.at_int HR.out (k : Int) (by omega) (by omega)
          rw [Int.toNat_natCast] at hcell
          have HT := Lib.hid (widthsB_take ws k hlt)
          by_cases hlo : rd ws k < 1
          · have hf : strF s.data.toList ws = ([], 1) := by
              rw [HD.out, if_pos (widthsB_bad ws k hlt (.inl hlo))]
            have HF := Lib.hid hf
            clear hf
            go_wp2
            go_ret2
            exact strPost HF.out (Below.refl _ _)
          · by_cases hhi : 64 < rd ws k
            · have hf : strF s.data.toList ws = ([], 1) := by
                rw [HD.out, if_pos (widthsB_bad ws k hlt (.inr hhi))]
              have HF := Lib.hid hf
              clear hf
              go_wp2
              go_ret2
              exact strPost HF.out (Below.refl _ _)
            · have hnext : Hid (widthsB (ws.take (k + 1)) = true) := by
                show _ = _
                rw [HT.out, HW.out, Bool.true_and, decide_eq_true (show 1 ≤ rd ws k by omega), decide_eq_true (show rd ws k ≤ 64 by omega)]
                rfl
              go_wp2
              go_round
              case rel => exact ⟨k + 1, by omega, by go_num, hnext⟩
              case measure => simp [intOf]; omega
        · have hf : strF s.data.toList ws = (strOut ws s.data.toList 0, 0) := by
            have h := HW.out
            rw [List.take_of_length_le (by omega)] at h
            rw [HD.out, h, if_neg (by decide)]
          have hall : Hid (widthsB ws = true) := by
            have h := HW.out
            rw [List.take_of_length_le (by omega)] at h
            exact h
          have HF := Lib.hid hf
          clear hf HD HW
          have HB0 : Hid (Lib.IsBuilderF 37 5 w.heap.size w.heap.size (Lib.byteCells []) (w.alloc (Obj.cells #[Value.pointer none, Value.slice none 0 0] 37))) := Lib.IsBuilderF.of (Lib.fresh_isBuilder 37 5 w)
          go_wp2
          go_loopw [39] (fun i wr => ∃ (q : Nat) (acc : List UInt8), q ≤ s.size ∧ i = .int .i64 (q : Int) ∧ Hid (strOut ws s.data.toList 0 = acc ++ strOut ws (s.data.toList.drop q) q) ∧ Hid (acc.length ≤ 64 * q) ∧ Hid (Lib.IsBuilderF 37 5 w.heap.size w.heap.size (Lib.byteCells acc) wr) ∧ Hid (Below w.heap.size w wr)) (fun i _ => s.size - (intOf i).toNat)
          case atStart => exact ⟨0, [], by omega, rfl, rfl, Nat.le_refl _, HB0, (Below.refl _ _).alloc (Nat.le_refl _) _⟩
          case round =>
            clear HB0
            obtain ⟨q, acc, hq, rfl, HS, HL, HI, HB⟩ := hrel
            by_cases hlt : q < s.size
            · obtain ⟨r, hr⟩ : ∃ r, q % ws.length = r := ⟨_, rfl⟩
              have hm : r < ws.length := by rw [← hr]; exact Nat.mod_lt _ hpos
              have e4 : (q : Int).tmod (ws.length : Int) = (r : Int) := by rw [← hr]; exact IntWalk.up_tmod rfl rfl
              obtain ⟨ad, rfl, hcell⟩ := Kd.at_int HR.out (r : Int) (by omega) (by omega)
              rw [Int.toNat_natCast] at hcell
              have hcell' := HB.out.cell (World.block_lt_of_cell? w _ hcell)
              rw [hcell] at hcell'
              obtain ⟨hlo, hhi⟩ := widthsB_at ws r hm hall.out
              obtain ⟨m, hm0⟩ : ∃ m : Nat, rd ws (r : Int) = (m : Int) := ⟨(rd ws (r : Int)).toNat, by omega⟩
              rw [hm0] at hcell hcell' hlo hhi
              have HM := Lib.hid hm0
              clear hm0
              have HR2 := Lib.hid hr
              clear hr
              go_wp2_with fail
              have e1 : IntKind.i64.wrap ((q : Int) + 1) = (q : Int) + 1 := IntWalk.i64_in _ (by omega)
              have e2 : 0 ≤ (q : Int) + 1 := by omega
              have e3 : ((q : Int) + 1).toNat = q + 1 := by omega
              have e5 : (q : Int) ≤ (q : Int) + 1 := by omega
              have e6 : (q : Int) + 1 ≤ s.size := by omega
              have e7 : IntKind.i64.wrap (r : Int) = (r : Int) := IntWalk.i64_in _ (by omega)
              have e8 : (r : Int) < ws.length := by omega
              have e9 : ¬ (ws = []) := fun h => by rw [h] at hpos; exact absurd hpos (by simp)
              have e10 : (q : Int) % (ws.length : Int) = (r : Int) := by rw [← HR2.out]; simp
              go_still_tail 12, (by kernel_rfl)
              change wpList _ _ _ _ _ wr.drew
              have HI2 : Hid (Lib.IsBuilderF 37 5 w.heap.size w.heap.size (Lib.byteCells acc) wr.drew) := HI
              have HB2 : Hid (Below w.heap.size w wr.drew) := HB.out.drew
              clear e1 e2 e3 e4 e5 e6 e7 e8 e9 e10 hcell' HI HB
              generalize wr.drew = w2 at HI2 HB2 ⊢
              have hone : (s.extract q (q + 1)).size = 1 := by simp [ByteArray.size_extract]; omega
              go_wp2_with fail
              refine (Try.strings_Repeat (s.extract q (q + 1)) m w2 (by omega) (by rw [hone]; omega)).mono ?_
              rintro e w3 ⟨rfl, hb3⟩
              have hsz := HB2.out.size
              have HI3 := Lib.hid (isBuilderF_below HI2.out hb3)
              have HB3 := Lib.hid (Below.trans HB2.out (hb3.mono hsz))
              have hout : (Lib.repeatL (s.extract q (q + 1)).data.toList m) = repB m s[q] := by
                rw [extract_one s q hlt]; exact repeatL_one _ _
              rw [hout]
              clear hout hone hb3
              go_wp2_with fail
              refine (write_any w.heap.size w.heap.size acc _ w3 HI3.out (by have := HL.out; rw [size_mk, repB_length]; omega) HB3.out.size).mono ?_
              rintro e w4 ⟨rfl, hi4, hb4⟩
              have HI4 := Lib.hid hi4
              have HB4 := Lib.hid (Below.trans HB3.out hb4)
              clear hi4 hb4
              go_wp2
              go_roundw
              case rel =>
                refine ⟨q + 1, acc ++ repB m s[q], by omega, by go_num, ?_, ?_, ?_, HB4⟩
                · show _ = _
                  rw [HS.out, drop_cons s q hlt, List.append_assoc]
                  congr 1
                  show repB (ws.getD (q % ws.length) 0).toNat s[q] ++ _ = _
                  rw [HR2.out]
                  have h := HM.out
                  unfold rd at h
                  rw [Int.toNat_natCast] at h
                  rw [h, Int.toNat_natCast]
                · show _ ≤ _
                  have := HL.out
                  rw [List.length_append, repB_length]; omega
                · have h := HI4.out
                  exact h
              case measure => simp [intOf]; omega
            · have hfin : strF s.data.toList ws = (acc, 0) := by
                rw [HF.out, HS.out, List.drop_eq_nil_of_le (by simp; omega)]; simp [strOut]
              have HF2 := Lib.hid hfin
              clear hfin
              go_wp2_with fail
              refine (Try.Builder_String_any_f w.heap.size w.heap.size acc wr HI.out HB.out.size).mono ?_
              rintro e w3 ⟨rfl, _, hb3⟩
              have HB3 := Lib.hid (Below.trans HB.out hb3)
              clear hb3
              go_wp2
              go_ret2
              exact strPost HF2.out HB3.out

end Go.Proofs.Ytemiidikcinobaa.Ext
