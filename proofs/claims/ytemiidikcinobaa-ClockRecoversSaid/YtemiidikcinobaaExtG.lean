/-
  The law ClockRecovers, walked: the Go text returns true, and turns nothing that was there. No condition.
-/
import Derived.Test.YtemiidikcinobaaExtF
import Derived.Test.YtemiidikcinobaaExtP
import Derived.ArgAppend
namespace Go.Proofs.Ytemiidikcinobaa.Ext
open Go Go.RowKit Go.Proofs.YtemiidikcinobaaW.PrintWords

theorem info3 : (Try.prog.info? 3).map (fun i => (i.zero, i.size, i.bytes)) = some (some (.int .i64 0), 1, 8) := by kernel_rfl

theorem olds_cells {w W : World} {A : Option Addr} {ws : List Int} (h : Kd.C (Kd.int .i64) w A ws.length ws) (hb : Below w.heap.size w W) (m : Nat) :
    ∀ b, A = some b → ∀ (j : Nat) (u : Value), ((ws.take m).map (Value.int .i64))[j]? = some u → W.cell? (b.add j) = some u := by
  intro b hA j u hu
  rw [List.getElem?_map, Option.map_eq_some_iff] at hu
  obtain ⟨x, hx, rfl⟩ := hu
  have hj : j < ws.length := by
    have := (List.getElem?_eq_some_iff.1 hx).1
    rw [List.length_take] at this; omega
  have hx2 : ws[j]? = some x := by
    rw [List.getElem?_take] at hx
    split at hx
    · exact hx
    · cases hx
  obtain ⟨ad, e, hc⟩ := Kd.at_int h (j : Int) (by omega) (by omega)
  rw [hA] at e
  injection e with e
  subst e
  rw [Int.toNat_natCast] at hc
  have := hb.cell (World.block_lt_of_cell? w _ hc)
  rw [this, hc]
  have : rd ws (j : Int) = x := by simp [rd, List.getD_eq_getElem?_getD, hx2]
  rw [this]

theorem own_open {w3 : World} {B : Nat} {v : Value} {m : Nat} {ws : List Int} (hm : m ≤ ws.length) (h : w3.ownsRow B 3 1 v (m + 1) ((ws.take m).map (Value.int .i64) ++ [.int .i64 0])) :
    ∃ (A3 : Option Addr) (c3 : Nat) (xs : List Int), v = .slice A3 (m + 1) c3 ∧ xs.length = m + 1 ∧ Kd.C (Kd.int .i64) w3 A3 (m + 1) xs := by
  have hl : (ws.take m ++ [0]).length = m + 1 := by simp; omega
  have h2 : w3.ownsRow B 3 1 v (ws.take m ++ [0]).length (encs (Value.int .i64) (ws.take m ++ [0])) := by
    rw [hl]
    have e : encs (Value.int .i64) (ws.take m ++ [0]) = (ws.take m).map (Value.int .i64) ++ [.int .i64 0] := by simp [encs]
    rw [e]
    exact h
  have hR : Kd.R (Kd.int .i64) 3 w3 B (fun _ => True) v (ws.take m ++ [0]) := Kd.R_of_own h2 (fun _ _ => trivial)
  obtain ⟨A3, c3, rfl, _, hC⟩ := Kd.R_reads hR
  rw [hl] at hC ⊢
  exact ⟨A3, c3, _, rfl, hl, hC⟩

theorem low_le (p : Int) (h : 1 ≤ p) : (3 * p + 3) / 4 ≤ (3 * p - 1) / 2 := by
  by_cases h1 : p = 1
  · subst h1; decide
  · by_cases h2 : p = 2
    · subst h2; decide
    · omega

theorem inR_snoc {p : Int} {ls : List Int} (h : InR p ls) {y : Int} (h0 : (3 * p + 3) / 4 ≤ y) (h1 : y ≤ (3 * p - 1) / 2) : InR p (ls ++ [y]) := by
  intro z hz
  rcases List.mem_append.1 hz with hz | hz
  · exact h z hz
  · rw [List.mem_singleton] at hz
    subst hz
    exact ⟨h0, h1⟩

set_option maxHeartbeats 2000000 in
set_option maxRecDepth 100000 in
theorem law_walk (s : ByteArray) (A : Option Addr) (c : Nat) (ws : List Int) (x : Int) (w : World) (hs : s.size ≤ 9223372036854775807) (hr : Kd.C (Kd.int .i64) w A ws.length ws) (hc : ws.length ≤ c) (hnil : A = none → c = 0) :
    Calls Try.prog 4 #[.string s, .slice A ws.length c, .int .i64 x] w fun e w' => e = .returned (.bool true) ∧ Below w.heap.size w w' := by
  have HR := Lib.hid hr
  have HN := Lib.hid hnil
  clear hr hnil
  obtain ⟨i0, hi, z0, z1, z2⟩ := info_parts info3
  have HI := Lib.hid (And.intro hi (And.intro z0 (And.intro z1 z2)))
  clear hi z0 z1 z2
  go_enter Try.func4, Try.ntmps4
  go_wp2_with fail
  refine (bitString_any s w hs).mono ?_
  rintro e w1 ⟨b, hb1, hb2, rfl, hb⟩
  have HB := Lib.hid hb
  have HG := Lib.hid hb1
  clear hb hb1
  go_wp2_with fail
  refine (within_any x 40 w1 (by omega) (by omega)).mono ?_
  rintro e w2 ⟨v, hv0, hv1, rfl, rfl⟩
  obtain ⟨p, hp⟩ : ∃ p, 1 + v = p := ⟨_, rfl⟩
  have hp1 : 1 ≤ p := by omega
  have hp2 : p ≤ 40 := by omega
  have hlh := low_le p hp1
  obtain ⟨m, hm⟩ : ∃ m : Nat, min (ws.length : Int) 50 = (m : Int) := ⟨min ws.length 50, by omega⟩
  have hml : m ≤ ws.length := by omega
  have hm50 : m ≤ 50 := by omega
  have hm3 : (m : Int) ≤ (c : Int) := by omega
  go_wp2_with (at_builtin; refine wpList_append_grows _ rfl (.tmp 31) (.tmp 32) 22 rfl 3 i0 (.int .i64 0) 1 8 Try.underlying22 HI.out.1 HI.out.2.1 HI.out.2.2.1 HI.out.2.2.2 rfl (by decide) A m m ((ws.take m).map (Value.int .i64)) rfl ?hn ?hl (olds_cells HR.out (below_alloc HB.out _) m) ⟨w1.heap.size, 0, none⟩ 1 1 [.int .i64 0] rfl rfl ?hc ?h1 (by omega) ?b1 ?b2 ?_; (case hn => intro h; have := HN.out h; omega); (case hl => simp; omega); (case hc => exact cell_one_new _ _ _); (case h1 => simp [Value.oneCell']); (case b1 => unfold maxLen; omega); (case b2 => omega); intro v33 w3 hown hgr; obtain ⟨A3, c3, xs, rfl, hxl, hC⟩ := own_open hml hown; have HC3 := Lib.hid hC; have HX := Lib.hid hxl; have HB3 := Lib.hid (Below.grown (below_alloc HB.out _) hgr (below_alloc HB.out _).size (by intro k hk; cases hk)); clear hown hgr hC hxl)
  go_loopw [8, 35] (fun v8 i wr => ∃ (k : Nat) (ls : List Int), k ≤ m + 1 ∧ i = .int .i64 (k : Int) ∧ Hid (ls.length = k) ∧ Hid (InR p ls) ∧ Hid (Kd.R (Kd.int .i64) 3 wr w3.heap.size (fun _ => True) v8 ls) ∧ Hid (Below w3.heap.size w3 wr)) (fun _ i _ => m + 1 - (intOf i).toNat)
  case atStart => exact ⟨0, [], by omega, rfl, rfl, (by intro y hy; cases hy), Kd.R_nil _ _ _ _ _, Below.refl _ _⟩
  case round =>
    obtain ⟨k, ls, hk, rfl, HL, HIn, HO, HB4⟩ := hrel
    by_cases hlt : k < m + 1
    · obtain ⟨ad, rfl, hcell⟩ := Kd.at_int HC3.out (k : Int) (by omega) (by omega)
      rw [Int.toNat_natCast] at hcell
      replace hcell := (HB4.out.cell (World.block_lt_of_cell? w3 _ hcell)).trans hcell
      go_wp2_with fail
      refine (within_any _ _ _ (by omega) (by omega)).mono ?_
      rintro e w5 ⟨y, hy0, hy1, rfl, rfl⟩
      have HNx := Lib.hid (inR_snoc HIn.out (y := (3 * p + 3) / 4 + y) (by omega) (by omega))
      have hll : ls.length ≤ 51 := by have := HL.out; omega
      have HLL := Lib.hid hll
      clear hll hcell
      go_wp2_with (at_builtin; refine Kd.R_append (Kd.int .i64) (w0 := w3) w3.heap.size rfl (.tmp 47) (.tmp 56) 22 3 (.int .i64 0) 8 rfl Try.underlying22 info3 rfl (by decide) (by omega) u8 ls ((3 * p + 3) / 4 + y) [.int .i64 ((3 * p + 3) / 4 + y)] (fun _ => True) (fun _ => False) rfl rfl ?aP (fun _ hk => hk.elim) ?aF ?aO ?aB ?aS ?aL ?_; (case aP => exact rfl); (case aB => exact (by repeat (first | exact HB4 | apply below_alloc | apply pw_below_drewN | apply below_drew1))); (case aF => exact (fun _ _ => trivial)); (case aO => exact (by (with_reducible repeat (first | apply Kd.R_alloc | apply Kd.R_drewN | apply Kd.R_drew)); exact HO)); (case aS => exact (below_size (by repeat (first | exact HB4 | apply below_alloc | apply pw_below_drewN | apply below_drew1)))); (case aL => have := HLL.out; omega); intro v8n w6 ho hb hg hat; have HO1 := Lib.hid ho; have HB6 := Lib.hid hb; clear ho hb hg hat HO HB4)
      go_roundw
      case rel =>
        refine ⟨k + 1, ls ++ [(3 * p + 3) / 4 + y], by omega, by go_num, ?_, HNx, HO1, HB6⟩
        show _ = _
        have := HL.out
        simp; omega
      case measure => simp [intOf]; omega
    · have hll : ls.length = m + 1 := by have := HL.out; omega
      obtain ⟨A8, c8, rfl, hc8, hC8⟩ := Kd.R_reads HO.out
      have HL8 := Lib.hid hll
      have HC8 := Lib.hid hC8
      have HB5 := Lib.hid (HB3.out.trans (HB4.out.mono HB3.out.size))
      clear hll hC8 HO
      obtain ⟨hst, hrec⟩ := plain b HG.out hb2 p hp1 hp2 ls (by have := HL8.out; omega) (by have := HL8.out; omega) HIn.out
      have HSt := Lib.hid hst
      have HRe := Lib.hid hrec
      clear hst hrec
      go_wp2_with fail
      refine (works_any wr).mono ?_
      rintro e w6 ⟨rfl, hb6⟩
      have HB6 := Lib.hid (HB5.out.trans (hb6.mono HB5.out.size))
      have HC6 := Lib.hid (Kd.C_below HC8.out hb6)
      clear hb6
      go_wp2_with fail
      refine (encode_any ⟨b.toArray⟩ w6 (by rw [size_mk]; omega) HG.out).mono ?_
      rintro e w7 ⟨he, hb7⟩
      subst he
      have HB7 := Lib.hid (HB6.out.trans (hb7.mono HB6.out.size))
      have HC7 := Lib.hid (Kd.C_below HC6.out hb7)
      clear hb7
      go_wp2_with fail
      refine (stretch_any ⟨(encL b).toArray⟩ A8 c8 ls w7 HC7.out hc8).mono ?_
      rintro e w8 ⟨he, hb8⟩
      have e2 : strF (⟨(encL b).toArray⟩ : ByteArray).data.toList ls = (strOut ls (encL b) 0, 0) := HSt.out
      rw [e2] at he
      subst he
      have HB8 := Lib.hid (HB7.out.trans (hb8.mono HB7.out.size))
      clear hb8 e2
      generalize strOut ls (encL b) 0 = yy at HRe ⊢
      go_wp2_with fail
      refine (recover_any ⟨yy.toArray⟩ p w8).mono ?_
      rintro e w9 ⟨he, hb9⟩
      have e2 : recF (⟨yy.toArray⟩ : ByteArray).data.toList p = (b, 0) := HRe.out
      rw [e2] at he
      subst he
      have HB9 := Lib.hid (HB8.out.trans (hb9.mono HB8.out.size))
      clear hb9 e2
      go_wp2
      go_ret
      exact ⟨rfl, HB9.out⟩

end Go.Proofs.Ytemiidikcinobaa.Ext
