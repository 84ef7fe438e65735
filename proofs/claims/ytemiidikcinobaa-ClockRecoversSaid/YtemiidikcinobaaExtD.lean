/-
  'clock.Recover' answers as the plain function 'recF' of the bytes and the number says, and turns nothing that was there. No condition.
-/
import Derived.Test.YtemiidikcinobaaExtC
namespace Go.Proofs.Ytemiidikcinobaa.Ext
open Go Go.RowKit Go.Proofs.YtemiidikcinobaaW.PrintWords

/-- How many bytes at the begin of a list are as its first one. -/
def runLen : List UInt8 → Nat
  | [] => 0
  | c :: l => 1 + (l.takeWhile (· == c)).length

theorem runLen_pos (c : UInt8) (l : List UInt8) : 0 < runLen (c :: l) := by simp only [runLen]; omega

/-- The symbols of the runs. -/
def recSyms (per : Int) (l : List UInt8) : Option (List UInt8) :=
  match l with
  | [] => some []
  | c :: m =>
    if 4 * (runLen (c :: m) : Int) < 3 * per ∨ 6 * per ≤ 2 * (runLen (c :: m) : Int) then none
    else (recSyms per ((c :: m).drop (runLen (c :: m)))).map ((if 2 * (runLen (c :: m) : Int) < 3 * per then [c] else [c, c]) ++ ·)
termination_by l.length
decreasing_by
  have := runLen_pos c m
  simp only [List.length_drop, List.length_cons]
  omega

def recF (l : List UInt8) (per : Int) : List UInt8 × Int :=
  if 65536 < l.length then ([], 2) else if goodB l = false then ([], 3) else if per < 1 ∨ 64 < per then ([], 1) else
    match recSyms per l with
    | none => ([], 11)
    | some y => if (decF y).2 = 0 then ((decF y).1, 0) else ([], 11)

def RecPost (s : ByteArray) (per : Int) (w : World) (e : Ending) (w' : World) : Prop :=
  e = .returned (.tuple #[.string ⟨(recF s.data.toList per).1.toArray⟩, .int .i64 (recF s.data.toList per).2]) ∧ Below w.heap.size w w'

theorem recPost {s : ByteArray} {per : Int} {w w' : World} {l : List UInt8} {n : Int} (h : recF s.data.toList per = (l, n)) (hb : Below w.heap.size w w') :
    RecPost s per w (.returned (.tuple #[.string ⟨l.toArray⟩, .int .i64 n])) w' := by
  unfold RecPost
  rw [h]
  exact ⟨rfl, hb⟩

/-- So far the bytes are as the first one. -/
def Same (s : ByteArray) (n : Nat) : Prop := ∀ j, j < n → s.data.toList[j]? = s.data.toList[0]?

theorem takeWhile_len (c : UInt8) : ∀ (l : List UInt8) (n : Nat), n ≤ l.length → (∀ j, j < n → l[j]? = some c) → (n = l.length ∨ l[n]? ≠ some c) → (l.takeWhile (· == c)).length = n
  | [], n, hn, _, _ => by simp at hn; simp [hn]
  | d :: l, 0, _, _, h => by
    rcases h with h | h
    · simp at h
    · have hd : d ≠ c := by simpa using h
      simp [hd]
  | d :: l, n + 1, hn, ha, h => by
    have hd : d = c := by have := ha 0 (by omega); simpa using this
    subst hd
    have := takeWhile_len d l n (by simpa using hn) (fun j hj => by have := ha (j + 1) (by omega); simpa using this) (by
      rcases h with h | h
      · left; simpa using h
      · right; simpa using h)
    simp [this]

theorem runLen_eq (s : ByteArray) (n : Nat) (h1 : 1 ≤ n) (hn : n ≤ s.size) (hs : Same s n) (he : n = s.size ∨ s.data.toList[n]? ≠ s.data.toList[0]?) : runLen s.data.toList = n := by
  have hlen : s.data.toList.length = s.size := by simp
  unfold Same at hs
  generalize s.data.toList = l at *
  cases l with
  | nil => simp at hlen; omega
  | cons c l =>
    simp only [runLen]
    rw [takeWhile_len c l (n - 1) (by simp at hlen; omega) (fun j hj => by have := hs (j + 1) (by omega); simpa using this) (by
      rcases he with he | he
      · left; simp at hlen; omega
      · right
        obtain ⟨m, rfl⟩ : ∃ m, n = m + 1 := ⟨n - 1, by omega⟩
        simpa using he)]
    omega

theorem get_list (t : ByteArray) (n : Nat) (h : n < t.size) : t.data.toList[n]? = some (t[n]'h) := by
  rw [List.getElem?_eq_getElem (by rw [data_length]; exact h)]; rfl

theorem same_next (t : ByteArray) (n : Nat) (h : n < t.size) (hs : Same t n) (he : t[n]'h = t[0]'(by omega)) : Same t (n + 1) := by
  intro j hj
  by_cases hjn : j < n
  · exact hs j hjn
  · obtain rfl : j = n := by omega
    rw [get_list t j h, get_list t 0 (by omega), he]

theorem stop_of (t : ByteArray) (n : Nat) (hn : n ≤ t.size) (h0 : 0 < t.size) (hc : ¬ ∃ h : n < t.size, t[n]'h = t[0]'h0) : n = t.size ∨ t.data.toList[n]? ≠ t.data.toList[0]? := by
  by_cases h : n < t.size
  · right
    rw [get_list t n h, get_list t 0 h0]
    intro e
    exact hc ⟨h, Option.some.inj e⟩
  · left; omega

theorem drewN_more {W wo : World} (h : ∃ m, W = wo.drewN m) (k : Nat) : ∃ m, W.drewN k = wo.drewN m := by
  obtain ⟨m, rfl⟩ := h
  exact ⟨m + k, by simp [World.drewN, Nat.add_assoc]⟩

theorem list_cons (t : ByteArray) (h : 0 < t.size) : ∃ m, t.data.toList = (t[0]'h) :: m := by
  have := drop_cons t 0 h
  rw [List.drop_zero] at this
  exact ⟨_, this⟩

theorem drop_all (t : ByteArray) (n : Nat) : (t.extract n t.size).data.toList = t.data.toList.drop n := by
  rw [Lib.extract_data, List.take_of_length_le]
  rw [List.length_drop, data_length]
  exact Nat.le_refl _

theorem recSyms_bad (t : ByteArray) (per : Int) (n : Nat) (h : 0 < t.size) (hr : runLen t.data.toList = n) (hc : 4 * (n : Int) < 3 * per ∨ 6 * per ≤ 2 * (n : Int)) : recSyms per t.data.toList = none := by
  obtain ⟨m, hm⟩ := list_cons t h
  rw [hm] at hr ⊢
  unfold recSyms
  rw [hr, if_pos hc]

theorem recSyms_one (t : ByteArray) (per : Int) (n : Nat) (h : 0 < t.size) (hr : runLen t.data.toList = n) (c1 : ¬ 4 * (n : Int) < 3 * per) (c2 : ¬ 6 * per ≤ 2 * (n : Int)) (c3 : 2 * (n : Int) < 3 * per) {acc : List UInt8} :
    (recSyms per t.data.toList).map (acc ++ ·) = (recSyms per (t.extract n t.size).data.toList).map ((acc ++ [t[0]'h]) ++ ·) := by
  rw [drop_all]
  obtain ⟨m, hm⟩ := list_cons t h
  rw [hm] at hr ⊢
  conv => lhs; unfold recSyms
  rw [hr, if_neg (by omega), if_pos c3, Option.map_map]
  congr 1
  funext x
  simp

theorem recSyms_two (t : ByteArray) (per : Int) (n : Nat) (h : 0 < t.size) (hr : runLen t.data.toList = n) (c1 : ¬ 4 * (n : Int) < 3 * per) (c2 : ¬ 6 * per ≤ 2 * (n : Int)) (c3 : ¬ 2 * (n : Int) < 3 * per) {acc : List UInt8} :
    (recSyms per t.data.toList).map (acc ++ ·) = (recSyms per (t.extract n t.size).data.toList).map ((acc ++ [t[0]'h, t[0]'h]) ++ ·) := by
  rw [drop_all]
  obtain ⟨m, hm⟩ := list_cons t h
  rw [hm] at hr ⊢
  conv => lhs; unfold recSyms
  rw [hr, if_neg (by omega), if_neg c3, Option.map_map]
  congr 1
  funext x
  simp

theorem extract_first (t : ByteArray) (h : 0 < t.size) : (t.extract 0 1).data.toList = [t[0]'h] := extract_one t 0 h

set_option maxHeartbeats 2000000 in
set_option maxRecDepth 100000 in
theorem recover_any (s : ByteArray) (per : Int) (w : World) :
    Calls Try.prog 7 #[.string s, .int .i64 per] w (RecPost s per w) := by
  have hlen : s.data.toList.length = s.size := by simp
  by_cases h1 : 65536 < s.size
  · have hd : recF s.data.toList per = ([], 2) := by unfold recF; rw [hlen, if_pos h1]
    have HD := Lib.hid hd
    clear hd hlen
    go_enter Try.func7, Try.ntmps7
    go_wp2
    go_ret2
    exact recPost HD.out (Below.refl _ _)
  have hg := good_any s w (by omega)
  cases h2 : goodB s.data.toList with
  | false =>
    have hd : recF s.data.toList per = ([], 3) := by unfold recF; rw [hlen, if_neg h1, if_pos h2]
    rw [h2] at hg
    have HD := Lib.hid hd
    clear hd hlen h2
    go_enter Try.func7, Try.ntmps7
    go_wp2_with fail
    refine hg.mono ?_
    rintro e w' ⟨rfl, rfl⟩
    go_wp2
    go_ret2
    exact recPost HD.out (Below.refl _ _)
  | true =>
    rw [h2] at hg
    by_cases h3 : per < 1
    · have hd : recF s.data.toList per = ([], 1) := by unfold recF; rw [hlen, if_neg h1, h2, if_neg (by decide), if_pos (.inl h3)]
      have HD := Lib.hid hd
      clear hd hlen h2
      go_enter Try.func7, Try.ntmps7
      go_wp2_with fail
      refine hg.mono ?_
      rintro e w' ⟨rfl, rfl⟩
      go_wp2
      go_ret2
      exact recPost HD.out (Below.refl _ _)
    by_cases h4 : 64 < per
    · have hd : recF s.data.toList per = ([], 1) := by unfold recF; rw [hlen, if_neg h1, h2, if_neg (by decide), if_pos (.inr h4)]
      have HD := Lib.hid hd
      clear hd hlen h2
      go_enter Try.func7, Try.ntmps7
      go_wp2_with fail
      refine hg.mono ?_
      rintro e w' ⟨rfl, rfl⟩
      go_wp2
      go_ret2
      exact recPost HD.out (Below.refl _ _)
    have hd : recF s.data.toList per = (match recSyms per s.data.toList with
        | none => ([], 11)
        | some y => if (decF y).2 = 0 then ((decF y).1, 0) else ([], 11)) := by unfold recF; rw [hlen, if_neg h1, h2, if_neg (by decide), if_neg (by omega)]
    have HD := Lib.hid hd
    have p1 : 1 ≤ per := by omega
    have p2 : per ≤ 64 := by omega
    have hs1 : s.size ≤ 65536 := by omega
    clear hd hlen h2 h3 h4 h1
    go_enter Try.func7, Try.ntmps7
    go_wp2_with fail
    refine hg.mono ?_
    rintro e w' ⟨rfl, rfl⟩
    have HB0 : Hid (Lib.IsBuilderF 37 5 w.heap.size w.heap.size (Lib.byteCells []) (w.alloc (Obj.cells #[Value.pointer none, Value.slice none 0 0] 37))) := Lib.IsBuilderF.of (Lib.fresh_isBuilder 37 5 w)
    go_wp2
    go_loopw [0, 7] (fun v _ wr => ∃ (t : ByteArray) (acc : List UInt8), t.size ≤ s.size ∧ v = .string t ∧ Hid (recSyms per s.data.toList = (recSyms per t.data.toList).map (acc ++ ·)) ∧ Hid (acc.length + 2 * t.size ≤ 2 * s.size) ∧ Hid (Lib.IsBuilderF 37 5 w.heap.size w.heap.size (Lib.byteCells acc) wr) ∧ Hid (Below w.heap.size w wr)) (fun v _ _ => match v with | .string t => t.size | _ => 0)
    case atStart => exact ⟨s, [], Nat.le_refl _, rfl, (by show _ = _; simp), (by show _ ≤ _; simp), HB0, (Below.refl _ _).alloc (Nat.le_refl _) _⟩
    case round =>
      clear HB0 hg
      obtain ⟨t, acc, ht, rfl, HS, HL, HI, HB⟩ := hrel
      by_cases hne : 0 < t.size
      · have hb : t.toList.isEmpty = false := by
          rw [Lib.toList_data, List.isEmpty_eq_false_iff]
          intro h
          have h2 := data_length t
          rw [h] at h2
          simp only [List.length_nil] at h2
          omega
        obtain ⟨wo, rfl⟩ : ∃ wo : World, wo = wr := ⟨_, rfl⟩
        go_wp2_with fail
        go_loopw [7] (fun v wx => ∃ n : Nat, 1 ≤ n ∧ n ≤ t.size ∧ v = .int .i64 (n : Int) ∧ Hid (Same t n) ∧ Hid (∃ m, wx = wo.drewN m)) (fun v _ => t.size - (intOf v).toNat)
        case atStart => exact ⟨1, by omega, by omega, rfl, (by intro j hj; obtain rfl : j = 0 := by omega
                                                               rfl), ⟨0, rfl⟩⟩
        case round =>
          obtain ⟨n, hn1, hn2, rfl, HSa, hwx⟩ := hrel
          by_cases hcont : ∃ h : n < t.size, t[n] = t[0]
          · obtain ⟨hlt, heq⟩ := hcont
            have hd : decide ((n : Int) < (t.size : Int)) = true := decide_eq_true (by omega)
            have hq : ((t[n].toNat : Int) == (t[0].toNat : Int)) = true := by rw [heq]; simp
            have hnext : Hid (Same t (n + 1)) := same_next t n hlt HSa heq
            clear heq
            go_wp2_with fail
            go_quiet (fail)
            go_wp2_with fail
            go_roundw
            case rel => exact ⟨n + 1, by omega, by omega, by go_num, hnext, drewN_more hwx _⟩
            case measure => simp [intOf]; omega
          · have hstop : n = t.size ∨ t.data.toList[n]? ≠ t.data.toList[0]? := stop_of t n hn2 hne hcont
            have hrun : runLen t.data.toList = n := runLen_eq t n hn1 hn2 HSa hstop
            have HRun := Lib.hid hrun
            clear hrun hstop
            have HB2 : Hid (Below w.heap.size w wr) := by obtain ⟨m, rfl⟩ := hwx; exact pw_below_drewN HB.out m
            have HI2 : Hid (Lib.IsBuilderF 37 5 w.heap.size w.heap.size (Lib.byteCells acc) wr) := by obtain ⟨m, rfl⟩ := hwx; exact HI
            have hn65 : n ≤ 65536 := by omega
            have hsplit : ((decide ((n : Int) < (t.size : Int)) = true) ∧ ∃ h : n < t.size, ((t[n].toNat : Int) == (t[0].toNat : Int)) = false) ∨ (decide ((n : Int) < (t.size : Int)) = false ∧ decide (n < t.size) = false) := by
              by_cases hlt : n < t.size
              · left
                refine ⟨decide_eq_true (by omega), hlt, ?_⟩
                rw [beq_eq_false_iff_ne]
                intro e
                exact hcont ⟨hlt, UInt8.toNat_inj.1 (by omega)⟩
              · right
                exact ⟨decide_eq_false (by omega), decide_eq_false hlt⟩
            clear hcont
            rcases hsplit with ⟨hd, hlt, hq⟩ | ⟨hd, hd'⟩
            all_goals
              by_cases c1 : 4 * (n : Int) < 3 * per
              · have hf : recF s.data.toList per = ([], 11) := by
                  rw [HD.out, HS.out, recSyms_bad t per n hne HRun.out (.inl c1)]; rfl
                have HF := Lib.hid hf
                clear hf
                go_wp2_with fail
                go_quiet (fail)
                go_wp2
                go_ret2
                exact recPost HF.out (pw_below_drewN HB2.out _)
              by_cases c2 : 6 * per ≤ 2 * (n : Int)
              · have hf : recF s.data.toList per = ([], 11) := by
                  rw [HD.out, HS.out, recSyms_bad t per n hne HRun.out (.inr c2)]; rfl
                have HF := Lib.hid hf
                clear hf
                go_wp2_with fail
                go_quiet (fail)
                go_wp2
                go_ret2
                exact recPost HF.out (pw_below_drewN HB2.out _)
              by_cases c3 : 2 * (n : Int) < 3 * per
              · have hnx : recSyms per s.data.toList = (recSyms per (t.extract n t.size).data.toList).map ((acc ++ [t[0]]) ++ ·) := by
                  rw [HS.out, recSyms_one t per n hne HRun.out c1 c2 c3]
                have HN := Lib.hid hnx
                clear hnx
                go_wp2_with fail
                go_quiet (fail)
                go_wp2_with fail
                refine (write_any w.heap.size w.heap.size acc (t.extract 0 1) (wr.drewN _) HI2.out (by have := HL.out; simp only [ByteArray.size_extract]; omega) (pw_below_drewN HB2.out _).size).mono ?_
                rintro e w3 ⟨rfl, hi3, hb3⟩
                rw [extract_first t hne] at hi3
                have HI3 := Lib.hid hi3
                have HB3 := Lib.hid (Below.trans (pw_below_drewN HB2.out _) hb3)
                clear hi3 hb3
                go_wp2
                go_roundw
                case rel =>
                  refine ⟨t.extract n t.size, acc ++ [t[0]], by simp only [ByteArray.size_extract]; omega, rfl, HN, ?_, HI3, HB3⟩
                  show _ ≤ _
                  have := HL.out
                  simp only [ByteArray.size_extract, List.length_append, List.length_singleton]
                  omega
                case measure => simp only [ByteArray.size_extract]; omega
              · have hnx : recSyms per s.data.toList = (recSyms per (t.extract n t.size).data.toList).map ((acc ++ [t[0], t[0]]) ++ ·) := by
                  rw [HS.out, recSyms_two t per n hne HRun.out c1 c2 c3]
                have HN := Lib.hid hnx
                clear hnx
                go_wp2_with fail
                go_quiet (fail)
                go_wp2_with fail
                have g1 : (1 : Int) ≤ (t.size : Int) := by omega
                have g2 : (t.extract 0 1).size = 1 := by simp only [ByteArray.size_extract]; omega
                go_still_tail 5, (by kernel_rfl)
                change wpList _ _ _ _ _ (World.drew (wr.drewN _))
                have HI4 : Hid (Lib.IsBuilderF 37 5 w.heap.size w.heap.size (Lib.byteCells acc) wr) := HI2
                generalize hw2 : World.drew (wr.drewN _) = w2
                have HI5 : Hid (Lib.IsBuilderF 37 5 w.heap.size w.heap.size (Lib.byteCells acc) w2) := by rw [← hw2]; exact HI4
                have HB5 : Hid (Below w.heap.size w w2) := by rw [← hw2]; exact (pw_below_drewN HB2.out _).drew
                clear hw2 g1
                go_wp2_with fail
                refine (write_any w.heap.size w.heap.size acc (t.extract 0 1 ++ t.extract 0 1) w2 HI5.out (by have := HL.out; rw [ByteArray.size_append, g2]; omega) HB5.out.size).mono ?_
                rintro e w3 ⟨rfl, hi3, hb3⟩
                rw [ByteArray.data_append, Array.toList_append, extract_first t hne] at hi3
                have HI3 := Lib.hid hi3
                have HB3 := Lib.hid (Below.trans HB5.out hb3)
                clear hi3 hb3
                go_wp2
                go_roundw
                case rel =>
                  refine ⟨t.extract n t.size, acc ++ [t[0], t[0]], by simp only [ByteArray.size_extract]; omega, rfl, HN, ?_, HI3, HB3⟩
                  show _ ≤ _
                  have := HL.out
                  simp only [ByteArray.size_extract, List.length_append, List.length_cons, List.length_nil]
                  omega
                case measure => simp only [ByteArray.size_extract]; omega
      · have hnil : t.data.toList = [] := by
          rw [← List.length_eq_zero_iff, data_length]
          omega
        have hb : t.toList.isEmpty = true := by rw [Lib.toList_data, hnil]; rfl
        have hf : recF s.data.toList per = (if (decF acc).2 = 0 then ((decF acc).1, 0) else ([], 11)) := by
          rw [HD.out, HS.out, hnil]
          simp [recSyms]
        clear hnil
        have hal : acc.length ≤ 2 * s.size := by have := HL.out; omega
        have HF := Lib.hid hf
        clear hf
        go_wp2_with fail
        refine (Try.Builder_String_any_f w.heap.size w.heap.size acc wr HI.out HB.out.size).mono ?_
        rintro e w3 ⟨rfl, _, hb3⟩
        have HB3 := Lib.hid (Below.trans HB.out hb3)
        clear hb3
        go_wp2_with fail
        refine (decode_any ⟨acc.toArray⟩ w3 (by rw [size_mk]; omega)).mono ?_
        rintro e w4 ⟨he, hb4⟩
        subst he
        have HB4 := Lib.hid (Below.trans HB3.out (hb4.mono HB3.out.size))
        clear hb4
        generalize hdc : decF ((⟨acc.toArray⟩ : ByteArray).data.toList) = dc
        have hdc2 : decF acc = dc := by rw [← hdc]
        rw [hdc2] at HF
        clear hdc hdc2
        by_cases hz : dc.2 = 0
        · have hf2 : recF s.data.toList per = (dc.1, 0) := by rw [HF.out, if_pos hz]
          have HF2 := Lib.hid hf2
          have hz2 : (dc.2 != 0) = false := by rw [hz]; rfl
          clear hf2 hz HF
          go_wp2
          go_ret2
          exact recPost HF2.out HB4.out
        · have hf2 : recF s.data.toList per = ([], 11) := by rw [HF.out, if_neg hz]
          have HF2 := Lib.hid hf2
          have hz2 : (dc.2 != 0) = true := by rw [bne_iff_ne]; exact hz
          clear hf2 hz HF
          go_wp2
          go_ret2
          exact recPost HF2.out HB4.out

end Go.Proofs.Ytemiidikcinobaa.Ext
