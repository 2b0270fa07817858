/- Parts of the proof of topCorrected_card: the texts MRune, P7, MOf, P8, MSorted, MIns, MCheck, P10, MSort of the session's own drivers and templates, laid together by a program of the session's own; what the theorem does not come to is left out. -/
import Derived.Deep.DrawnRows
import Derived.Deep.RegionHeld3
import Derived.Laws.RangeAny
import Derived.Laws.Runes
import Derived.Lib.OthersKept
import Derived.Outline
import Derived.OwnWalk
import Derived.Test.YteoknahabkoknaaGreatDoorShelf
import Derived.Test.YteoknahabkoknaaGreatDoorY1
namespace Go.Proofs.YteoknahabkoknaaGreatDoor.P
open Go.RowKit Go.Proofs.YteoknahabkoknaaGreatDoorW.PrintWords Go.Proofs.YteoknahabkoknaaGreatDoorW.PrintLast
/- strings.ContainsRune where the rune is an ASCII one: whether the byte is in the string. -/
def strings_ContainsRune.f (a0 : ByteArray) (a1 : Int) : Option (Bool) := if 0 ≤ a1 then (if a1 < 128 then some (decide (0 ≤ Lib.indexByte a0.data.toList a1.toNat.toUInt8)) else none) else none
theorem strings_ContainsRune.calls (a0 : ByteArray) (a1 : Int) (r : Bool) (w : World) (h : strings_ContainsRune.f a0 a1 = some r) :
  Calls Tryz.prog 65 #[.string a0, .int .i32 a1] w fun e w' => e = .returned (.bool r) ∧ Drawn0 w w' := by
 unfold strings_ContainsRune.f at h
 split at h
 ·split at h
  ·obtain rfl := Option.some.inj h
   exact (Tryz.strings_ContainsRune_ascii a0 a1 w (by assumption) (by assumption)).mono fun e w' ⟨he, hw⟩ => ⟨he, hw ▸ Drawn0.refl _⟩
  ·cases h
 ·cases h
end Go.Proofs.YteoknahabkoknaaGreatDoor.P
namespace Go.Proofs.YteoknahabkoknaaGreatDoor.P
open Go.RowKit Go.Proofs.YteoknahabkoknaaGreatDoorW.PrintWords Go.Proofs.YteoknahabkoknaaGreatDoorW.PrintLast Go.Proofs.YteoknahabkoknaaGreatDoorW.PrintMore
attribute [local go_sem] max2_int min2_int max_two min_two max_three min_three max_four min_four   -- for this text's walks alone
set_option linter.unusedVariables false
set_option linter.unusedSimpArgs false
def name_kind.j0 : Nat → Int → Bool → Option (Int)
 | 0, _, _ => none
 | k + 1, x0, x3 => if x3 = true then (some 1) else (if x0 ≥ 65 then (if x0 ≤ 90 then ((strings_ContainsRune.f (⟨#[72, 81, 87]⟩ : ByteArray) x0).bind fun t173 => (if t173 = true then (some 0) else (some 2))) else (some 0)) else (some 0))
def name_kind.f (k : Nat) (a0 : Int) : Option (Int) := if a0 ≥ 97 then (name_kind.j0 k a0 (decide (a0 ≤ 122))) else (name_kind.j0 k a0 false)
set_option maxHeartbeats 8000000 in
set_option maxRecDepth 100000 in
theorem name_kind.calls (k : Nat) (a0 : Int) (r : Int) (w : World) (h : name_kind.f k a0 = some r) :
  Calls Tryz.prog 51 #[.int .i32 a0] w fun e w' => e = .returned (.int .i64 r) ∧ Drawn0 w w' := by
 have H : (if a0 ≥ 97 then (name_kind.j0 k a0 (decide (a0 ≤ 122))) else (name_kind.j0 k a0 false)) = some r := h
 clear h
 have HC2 := Aside0.mk H
 clear H
 go_enter Tryz.func51, Tryz.ntmps51
 go_upto_region 1 with (fail)
 go_cut [3] (fun v3 wc => ∃ (kq : Nat) (x3_1 : Bool), v3 = .bool x3_1 ∧ Aside0 (name_kind.j0 kq a0 x3_1 = some r) ∧ Aside0 (kq ≤ k) ∧ Drawn0 w wc)
 case first =>
  have H := HC2.out
  clear HC2
  by_cases c3 : a0 ≥ 97
  ·rw [if_pos c3] at H
   have c3b0 : decide (97 ≤ a0) = true := decide_eq_true c3
   clear c3
   (first | rw [c3b0] | (simp only [i64_w, i32_w]; rw [c3b0]) | skip)
   have H' := Aside0.mk H
   clear H
   go_wp2
   go_meet
   case rel => exact ⟨_, (decide (a0 ≤ 122)), (by first | rfl | (simp; done) | (simp [*]; done)), H', ⟨by first | omega | exact Nat.le_refl _⟩, by repeat (first | exact Drawn0.refl _ | apply Drawn0.step)⟩
  ·rw [if_neg c3] at H
   have c3b0 : decide (97 ≤ a0) = false := decide_eq_false c3
   clear c3
   (first | rw [c3b0] | (simp only [i64_w, i32_w]; rw [c3b0]) | skip)
   have H' := Aside0.mk H
   clear H
   go_wp2
   go_meet
   case rel => exact ⟨_, (false), (by first | rfl | (simp; done) | (simp [*]; done)), H', ⟨by first | omega | exact Nat.le_refl _⟩, by repeat (first | exact Drawn0.refl _ | apply Drawn0.step)⟩
 case rest =>
  clear HC2
  try clear p2
  try clear c3
  try clear c3b0
  obtain ⟨kq, x3_1, rfl, HA, HJ1, ⟨mc1, rfl⟩⟩ := hcut
  cases kq with
  | zero => exact absurd HA.out (by simp [name_kind.j0])
  | succ kj1 =>
   have H := HA.out
   clear HA
   simp only [name_kind.j0] at H
   by_cases c4 : x3_1 = true
   ·subst c4
    have H1 : (some 1) = some r := by rw [if_pos rfl] at H; exact H
    clear H
    have H := H1
    clear H1
    obtain rfl := Option.some.inj H
    go_wp2
    go_ret
    exact ⟨by first | rfl | (simp; done) | (simp [*]; done), by repeat (first | exact Drawn0.refl _ | apply Drawn0.step)⟩
   ·replace c4 := Bool.eq_false_iff.mpr c4
    subst c4
    have H1 : (if a0 ≥ 65 then (if a0 ≤ 90 then ((strings_ContainsRune.f (⟨#[72, 81, 87]⟩ : ByteArray) a0).bind fun t173 => (if t173 = true then (some 0) else (some 2))) else (some 0)) else (some 0)) = some r := by rw [if_neg (show ¬ (false = true) by decide)] at H; exact H
    clear H
    have H := H1
    clear H1
    by_cases c5 : a0 ≥ 65
    ·rw [if_pos c5] at H
     have c5b0 : decide (65 ≤ a0) = true := decide_eq_true c5
     clear c5
     by_cases c6 : a0 ≤ 90
     ·rw [if_pos c6] at H
      have c6b0 : decide (a0 ≤ 90) = true := decide_eq_true c6
      clear c6
      replace H := Option.bind_eq_some_iff.mp H
      obtain ⟨t173, A70, H⟩ := H
      try dsimp only at H
      have A7 := Aside0.mk A70
      clear A70
      by_cases c8 : t173 = true
      ·subst c8
       have H1 : (some 0) = some r := by rw [if_pos rfl] at H; exact H
       clear H
       have H := H1
       clear H1
       obtain rfl := Option.some.inj H
       go_wp2_with (first | (go_at_call 65; (with_reducible refine (strings_ContainsRune.calls (⟨#[72, 81, 87]⟩ : ByteArray) a0 true _ A7.out).mono ?_); rintro e w' ⟨rfl, ⟨nd, rfl⟩⟩))
       go_ret
       exact ⟨by first | rfl | (simp; done) | (simp [*]; done), by repeat (first | exact Drawn0.refl _ | apply Drawn0.step)⟩
      ·replace c8 := Bool.eq_false_iff.mpr c8
       subst c8
       have H1 : (some 2) = some r := by rw [if_neg (show ¬ (false = true) by decide)] at H; exact H
       clear H
       have H := H1
       clear H1
       obtain rfl := Option.some.inj H
       go_wp2_with (first | (go_at_call 65; (with_reducible refine (strings_ContainsRune.calls (⟨#[72, 81, 87]⟩ : ByteArray) a0 false _ A7.out).mono ?_); rintro e w' ⟨rfl, ⟨nd, rfl⟩⟩))
       go_ret
       exact ⟨by first | rfl | (simp; done) | (simp [*]; done), by repeat (first | exact Drawn0.refl _ | apply Drawn0.step)⟩
     ·rw [if_neg c6] at H
      have c6b0 : decide (a0 ≤ 90) = false := decide_eq_false c6
      clear c6
      obtain rfl := Option.some.inj H
      go_wp2
      go_ret
      exact ⟨by first | rfl | (simp; done) | (simp [*]; done), by repeat (first | exact Drawn0.refl _ | apply Drawn0.step)⟩
    ·rw [if_neg c5] at H
     have c5b0 : decide (65 ≤ a0) = false := decide_eq_false c5
     clear c5
     obtain rfl := Option.some.inj H
     go_wp2
     go_ret
     exact ⟨by first | rfl | (simp; done) | (simp [*]; done), by repeat (first | exact Drawn0.refl _ | apply Drawn0.step)⟩
def name_compare_1.f (k : Nat) (a0 : ByteArray) : Option (Int) := if 0 < (a0.size : Int) then ((name_kind.f k (wrap32 (bt a0 0))).bind fun t174 => (some t174)) else (none)
set_option maxHeartbeats 8000000 in
set_option maxRecDepth 100000 in
theorem name_compare_1.calls (k : Nat) (a0 : ByteArray) (r : Int) (w : World) (h : name_compare_1.f k a0 = some r) :
  Calls Tryz.prog 50 #[.string a0] w fun e w' => e = .returned (.int .i64 r) ∧ Drawn0 w w' := by
 have H : (if 0 < (a0.size : Int) then ((name_kind.f k (wrap32 (bt a0 0))).bind fun t174 => (some t174)) else (none)) = some r := h
 clear h
 by_cases c2 : 0 < (a0.size : Int)
 ·rw [if_pos c2] at H
  have c2b0 : decide (0 < (a0.size : Int)) = true := decide_eq_true c2
  have c2b1 : decide (0 < a0.size) = true := decide_eq_true (by omega)
  clear c2
  replace H := Option.bind_eq_some_iff.mp H
  obtain ⟨t174, A40, H⟩ := H
  try dsimp only at H
  have A4 := Aside0.mk A40
  clear A40
  obtain rfl := Option.some.inj H
  have p3 : 0 ≤ (0 : Int) := (by omega)
  have q3 : 0 < a0.size := (by have : (0 : Int) < (a0.size : Int) := of_decide_eq_true (by first | (with_reducible assumption) | assumption); omega)
  have hx3 : ∀ h : 0 < a0.size, ((a0[0]'h).toNat : Int) = bt a0 0 := bt_at a0 0
  clear p3
  have qi3 : (0 < (a0.size : Int)) = True := eq_true (of_decide_eq_true (by first | (with_reducible assumption) | assumption))
  replace q3 := eq_true q3
  go_enter Tryz.func50, Tryz.ntmps50
  go_wp2_with (first | ((with_reducible refine gate_callee (f := 51) rfl ?_); refine goesL_ (some 6) rfl rfl Tryz.func51 (by kernel_rfl) rfl #[.int .i32 (wrap32 (bt a0 0))] rfl (by (try simp only [List.map_toArray, List.map_cons, List.map_nil]); first | done | rfl | (simp only [List.length_drop, List.length_take]; rfl)) ?_; (with_reducible refine (name_kind.calls k (wrap32 (bt a0 0)) t174 _ A4.out).mono ?_); rintro e w' ⟨rfl, ⟨nd, rfl⟩⟩; refine ⟨_, rfl, ?_⟩))
  go_ret
  exact ⟨by first | rfl | (simp; done) | (simp [*]; done), by repeat (first | exact Drawn0.refl _ | apply Drawn0.step)⟩
 ·rw [if_neg c2] at H
  exact absurd H (by simp)
end Go.Proofs.YteoknahabkoknaaGreatDoor.P
namespace Go.Proofs.YteoknahabkoknaaGreatDoor.P
open Go.RowKit Go.Proofs.YteoknahabkoknaaGreatDoorW.PrintWords Go.Proofs.YteoknahabkoknaaGreatDoorW.PrintLast
set_option linter.unusedVariables false
set_option linter.unusedSimpArgs false
/- name.sound at an ASCII letter, and name.of at an ASCII name of at most six bytes: the key. -/
/-- What a letter stands for. -/
def soundL (n : Nat) : List UInt8 := if n = 67 then [99, 104] else if n = 74 then [106, 117] else if n = 89 then [106, 97] else if n = 88 then [115, 104] else Lib.toLowerA [n.toUInt8]
theorem encode_ascii (n : Nat) (h : n < 128) : Utf8.encode (n : Int) = ⟨#[n.toUInt8]⟩ := by
 have hv : Utf8.valid (n : Int) = true := by simp [Utf8.valid]; omega
 unfold Utf8.encode
 simp only [hv, if_true, Int.toNat_natCast]
 rw [if_pos (by omega)]
theorem sound_calls (n : Nat) (hn : n < 128) (w : World) : Calls Tryz.prog 59 #[.int .i32 (n : Int)] w fun e w' => e = .returned (.string ⟨(soundL n).toArray⟩) ∧ Below w.heap.size w w' := by
 by_cases h1 : n = 67
 ·subst h1
  go_enter Tryz.func59, Tryz.ntmps59
  go_wp2
  go_ret
  exact ⟨rfl, Below.refl _ _⟩
 by_cases h2 : n = 74
 ·subst h2
  go_enter Tryz.func59, Tryz.ntmps59
  go_wp2
  go_ret
  exact ⟨rfl, Below.refl _ _⟩
 by_cases h3 : n = 89
 ·subst h3
  go_enter Tryz.func59, Tryz.ntmps59
  go_wp2
  go_ret
  exact ⟨rfl, Below.refl _ _⟩
 by_cases h4 : n = 88
 ·subst h4
  go_enter Tryz.func59, Tryz.ntmps59
  go_wp2
  go_ret
  exact ⟨rfl, Below.refl _ _⟩
 have e1 : ((n : Int) == 67) = false := by simp; omega
 have e2 : ((n : Int) == 74) = false := by simp; omega
 have e3 : ((n : Int) == 89) = false := by simp; omega
 have e4 : ((n : Int) == 88) = false := by simp; omega
 have hs : soundL n = Lib.toLowerA [n.toUInt8] := by unfold soundL; rw [if_neg h1, if_neg h2, if_neg h3, if_neg h4]
 have HS := Aside0.mk hs
 have hc : ∀ w, (convert 21 9 (.int .i32 (n : Int))).run Tryz.prog w = .ok (.string ⟨#[n.toUInt8]⟩) w := by
  intro w
  rw [← encode_ascii n hn]
  exact run_convert_int_string w _ _ _ _ (by rw [Tryz.underlying21]; rfl) Tryz.underlying9
 have hlow : ∀ w, Calls Tryz.prog 71 #[.string ⟨#[n.toUInt8]⟩] w fun e w' => e = .returned (.string ⟨(Lib.toLowerA [n.toUInt8]).toArray⟩) ∧ Below w.heap.size w w' := fun w => Tryz.strings_ToLower_ascii ⟨#[n.toUInt8]⟩ w (by show 1 ≤ 140737488355328; omega) (by
  intro j b hj
  match j, hj with
  | 0, hj =>
   simp at hj
   subst hj
   simp; omega
  | j + 1, hj => simp at hj)
 have HL := Aside0.mk hlow
 clear h1 h2 h3 h4 hs hlow
 go_enter Tryz.func59, Tryz.ntmps59
 go_wp2_with (go_at_call 71; refine (HL.out _).mono ?_; rintro e w' ⟨rfl, hb⟩)
 go_ret
 exact ⟨by rw [HS.out]; rfl, by assumption⟩
def keyL (l : List UInt8) : List UInt8 := l.flatMap fun b => soundL b.toNat
theorem soundL_len (n : Nat) : (soundL n).length ≤ 2 := by
 unfold soundL
 split
 ·decide
 ·split
  ·decide
  ·split
   ·decide
   ·split
    ·decide
    ·simp [Lib.toLowerA]
theorem keyL_len (l : List UInt8) : (keyL l).length ≤ 2 * l.length := by
 induction l with
 | nil => simp [keyL]
 | cons b l ih =>
  have := soundL_len b.toNat
  simp only [keyL, List.flatMap_cons, List.length_append, List.length_cons] at *
  omega
theorem keyL_snoc (l : List UInt8) (b : UInt8) : keyL (l ++ [b]) = keyL l ++ soundL b.toNat := by simp [keyL]
def name_of.f (a0 : ByteArray) : Option (ByteArray) := if a0.size ≤ 6 ∧ a0.data.toList.all (fun b => decide (b.toNat < 128)) = true then some ⟨(keyL a0.data.toList).toArray⟩ else none
theorem iterAt_get {W : World} {k : Nat} (h : k < W.heap.size) (s : ByteArray) (p : Nat) : (W.iterAt k s p).heap[k]? = some (.stringIter s p) := by
 unfold World.iterAt
 simp [h]
theorem iterAt_size (W : World) (k : Nat) (s : ByteArray) (p : Nat) : (W.iterAt k s p).heap.size = W.heap.size := by
 unfold World.iterAt
 simp
theorem below_iterAt {B : Nat} {w W : World} {k : Nat} (h : Below B w W) (hB : B ≤ k) (s : ByteArray) (p : Nat) : Below B w (W.iterAt k s p) :=
 ⟨h.os, h.tape, h.output, by rw [iterAt_size]; exact h.size, fun i hi => by
  have : (W.iterAt k s p).heap[i]? = W.heap[i]? := by
   unfold World.iterAt
   simp only [Array.getElem?_setIfInBounds]
   rw [if_neg (by omega)]
  rw [this]; exact h.block i hi⟩
theorem iterPos_at {W : World} {k : Nat} {s : ByteArray} {p : Nat} (h : W.heap[k]? = some (.stringIter s p)) : W.iterPos k = p := by unfold World.iterPos; rw [h]
theorem key_add (l : List UInt8) (b : UInt8) : (⟨(keyL l).toArray⟩ : ByteArray) ++ ⟨(soundL b.toNat).toArray⟩ = ⟨(keyL (l ++ [b])).toArray⟩ := by
 rw [keyL_snoc, ByteArray.mk_append_mk]
theorem key_size (l : List UInt8) (n : Nat) (h : l.length ≤ n) : (⟨(keyL l).toArray⟩ : ByteArray).size ≤ 2 * n := by
 have := keyL_len l
 show (keyL l).toArray.size ≤ _
 simp; omega
theorem sound_size (n : Nat) : (⟨(soundL n).toArray⟩ : ByteArray).size ≤ 2 := by
 have := soundL_len n
 show (soundL n).toArray.size ≤ _
 simpa using this
set_option maxHeartbeats 4000000 in
set_option maxRecDepth 100000 in
theorem name_of.calls (a0 : ByteArray) (r : ByteArray) (w : World) (h : name_of.f a0 = some r) :
  Calls Tryz.prog 41 #[.string a0] w fun e w' => e = .returned (.string r) ∧ Below w.heap.size w w' := by
 unfold name_of.f at h
 split at h
 case isFalse => cases h
 rename_i hcond
 obtain ⟨h6, hasc⟩ := hcond
 obtain rfl := Option.some.inj h
 have hasc' : ∀ p (hp : p < a0.size), a0[p].toNat < 128 := fun p hp => by
  have := List.all_eq_true.1 hasc a0[p] (Array.getElem_mem_toList (xs := a0.data) hp)
  simpa using this
 have HA := Aside0.mk hasc'
 clear hasc hasc' h
 go_enter Tryz.func41, Tryz.ntmps41
 go_wp2
 go_loopw [3] (fun v wr => ∃ (pos : Nat) (K : ByteArray), v = .string K ∧ Hid (K = ⟨(keyL (a0.data.toList.take pos)).toArray⟩) ∧ pos ≤ a0.size ∧ Hid (wr.heap[w.heap.size]? = some (.stringIter a0 pos)) ∧ Aside0 (Below w.heap.size w wr)) (fun _ wr => a0.size - wr.iterPos w.heap.size)
 case atStart => exact ⟨0, _, rfl, rfl, Nat.zero_le _, World.iter_heap w a0 0, ⟨(Below.refl _ _).alloc (Nat.le_refl _) _⟩⟩
 case round =>
  obtain ⟨pos, K, rfl, hK, hle, hit, hB⟩ := hrel
  have hlt : w.heap.size < wr.heap.size := (Array.getElem?_eq_some_iff.1 hit.out).1
  by_cases hp : pos < a0.size
  ·have hb := HA.out pos hp
   have hnx := fun ty => Lib.run_next_ascii_at (P := Tryz.prog) wr w.heap.size a0 pos ty hit.out hp hb
   have htake : a0.data.toList.take (pos + 1) = a0.data.toList.take pos ++ [a0[pos]] := by
    rw [List.take_succ_eq_append_getElem (by simpa using hp)]; rfl
   have HT := Aside0.mk htake
   clear htake
   generalize a0[pos] = b at *
   have HNX := Aside0.mk hnx
   have hsc := fun W => sound_calls b.toNat hb W
   have hs2 := sound_size b.toNat
   have hadd : K ++ ⟨(soundL b.toNat).toArray⟩ = ⟨(keyL (a0.data.toList.take (pos + 1))).toArray⟩ := by rw [HT.out, hK.out]; exact key_add _ _
   have hk12 : K.size ≤ 12 := by rw [hK.out]; exact key_size _ 6 (by simp; omega)
   generalize (⟨(soundL b.toNat).toArray⟩ : ByteArray) = S at *
   have HADD := Aside0.mk hadd
   have HSC := Aside0.mk hsc
   have I1 := iterAt_get hlt a0 (pos + 1)
   have I2 := below_iterAt hB.out (Nat.le_refl _) a0 (pos + 1)
   have I3 := iterAt_size wr w.heap.size a0 (pos + 1)
   have hm : wr.iterPos w.heap.size = pos := iterPos_at hit.out
   generalize wr.iterAt w.heap.size a0 (pos + 1) = w1 at *
   have HI1 := Aside0.mk I1
   have HI2 := Aside0.mk I2
   have HM := Aside0.mk hm
   have hlt1 : w.heap.size < w1.heap.size := by omega
   clear hadd hsc hb hnx I1 I2 I3 hm
   have hnx := HNX.out
   clear HNX
   have ha : (Op.stringOp .add K S).run Tryz.prog = (Op.stringOp .add K S).run Tryz.prog := rfl
   clear ha
   go_wp2_with (go_at_call 59; refine (HSC.out _).mono ?_; rintro e w2 ⟨rfl, hb2⟩)
   have J : w2.heap[w.heap.size]? = some (.stringIter a0 (pos + 1)) := (hb2.block _ hlt1).trans HI1.out
   have HJ := Aside0.mk J
   clear J
   go_roundw
   case rel => exact ⟨pos + 1, _, rfl, HADD.out, by omega, HJ.out, ⟨below_then HI2.out (by omega) hb2⟩⟩
   case measure => rw [HM.out, iterPos_at HJ.out]; omega
  ·have hnx := fun ty => Lib.run_next_end_at (P := Tryz.prog) wr w.heap.size a0 pos ty hit.out hp
   have hKf : K = ⟨(keyL a0.data.toList).toArray⟩ := by
    rw [hK.out, List.take_of_length_le (by simp; omega)]
   subst hKf
   clear hK hp
   go_wp2
   go_ret
   exact ⟨rfl, hB.out⟩
end Go.Proofs.YteoknahabkoknaaGreatDoor.P
namespace Go.Proofs.YteoknahabkoknaaGreatDoor.P
open Go.RowKit Go.Proofs.YteoknahabkoknaaGreatDoorW.PrintWords Go.Proofs.YteoknahabkoknaaGreatDoorW.PrintLast Go.Proofs.YteoknahabkoknaaGreatDoorW.PrintMore
attribute [local go_sem] max2_int min2_int max_two min_two max_three min_three max_four min_four   -- for this text's walks alone
set_option linter.unusedVariables false
set_option linter.unusedSimpArgs false
def name_compare.f (k : Nat) (a0 : ByteArray) (a1 : ByteArray) : Option (Int) := (name_of.f a0).bind fun t175 => ((name_of.f a1).bind fun t176 => ((name_key_53.f t175 t176).bind fun t177 => ((name_compare_1.f k a0).bind fun t178 => ((name_compare_1.f k a1).bind fun t179 => ((cmp_Compare_int.f t178 t179).bind fun t180 => ((cmp_Or_int.f k (([t177, t180] : List Int))).bind fun t184 => (some t184)))))))
set_option maxHeartbeats 8000000 in
set_option maxRecDepth 100000 in
theorem name_compare.calls (k : Nat) (a0 : ByteArray) (a1 : ByteArray) (r : Int) (w : World) (h : name_compare.f k a0 a1 = some r) :
  Calls Tryz.prog 30 #[.string a0, .string a1] w fun e w' => e = .returned (.int .i64 r) ∧ Below w.heap.size w w' := by
 have HB := Aside0.mk (Below.refl w.heap.size w)
 have H : ((name_of.f a0).bind fun t175 => ((name_of.f a1).bind fun t176 => ((name_key_53.f t175 t176).bind fun t177 => ((name_compare_1.f k a0).bind fun t178 => ((name_compare_1.f k a1).bind fun t179 => ((cmp_Compare_int.f t178 t179).bind fun t180 => ((cmp_Or_int.f k (([t177, t180] : List Int))).bind fun t184 => (some t184)))))))) = some r := h
 clear h
 replace H := Option.bind_eq_some_iff.mp H
 obtain ⟨t175, A30, H⟩ := H
 try dsimp only at H
 have A3 := Aside0.mk A30
 clear A30
 replace H := Option.bind_eq_some_iff.mp H
 obtain ⟨t176, A40, H⟩ := H
 try dsimp only at H
 have A4 := Aside0.mk A40
 clear A40
 replace H := Option.bind_eq_some_iff.mp H
 obtain ⟨t177, A50, H⟩ := H
 try dsimp only at H
 have A5 := Aside0.mk A50
 clear A50
 replace H := Option.bind_eq_some_iff.mp H
 obtain ⟨t178, A60, H⟩ := H
 try dsimp only at H
 have A6 := Aside0.mk A60
 clear A60
 replace H := Option.bind_eq_some_iff.mp H
 obtain ⟨t179, A70, H⟩ := H
 try dsimp only at H
 have A7 := Aside0.mk A70
 clear A70
 replace H := Option.bind_eq_some_iff.mp H
 obtain ⟨t180, A80, H⟩ := H
 try dsimp only at H
 have A8 := Aside0.mk A80
 clear A80
 obtain ⟨y181, hy181⟩ : ∃ y_ : List Int, y_ = (([t177, t180] : List Int)) := ⟨_, rfl⟩
 replace H : ((cmp_Or_int.f k y181).bind fun t184 => (some t184)) = some r := by first | (rw [hy181]; with_reducible exact H) | (have H2_ := (Option.bind_some _ _).symm.trans H; rw [hy181]; with_reducible exact H2_) | (have H2_ := (Option.bind_some _ _).symm.trans H; with_reducible exact H2_) | with_reducible exact H | (rw [hy181]; exact H) | exact H
 have Ny181 := Aside0.mk hy181
 clear hy181
 replace H := Option.bind_eq_some_iff.mp H
 obtain ⟨t184, A90, H⟩ := H
 try dsimp only at H
 have A9 := Aside0.mk A90
 clear A90
 obtain rfl := Option.some.inj H
 go_enter Tryz.func30, Tryz.ntmps30
 go_wp2_with (first | (go_at_call 41; (with_reducible refine (name_of.calls a0 t175 _ A3.out).mono ?_); rintro e w10 ⟨rfl, hb⟩; have n0_ := Aside0.mk (below_step (by repeat (first | (with_reducible first | exact HB.out | apply below_alloc | apply pw_below_drewN | apply below_drew1) | exact HB.out)) hb); clear HB; have HB := n0_; clear n0_; (try clear hb); (try clear hb2); (try clear hk); (try clear hi)) | (go_at_call 41; (with_reducible refine (name_of.calls a1 t176 _ A4.out).mono ?_); rintro e w11 ⟨rfl, hb⟩; have n0_ := Aside0.mk (below_step (by repeat (first | (with_reducible first | exact HB.out | apply below_alloc | apply pw_below_drewN | apply below_drew1) | exact HB.out)) hb); clear HB; have HB := n0_; clear n0_; (try clear hb); (try clear hb2); (try clear hk); (try clear hi)) | (go_at_call 53; (with_reducible refine (name_key_53.calls t175 t176 t177 _ A5.out).mono ?_); rintro e w' ⟨rfl, ⟨nd, rfl⟩⟩) | (go_at_call 50; (with_reducible refine (name_compare_1.calls k a0 t178 _ A6.out).mono ?_); rintro e w' ⟨rfl, ⟨nd, rfl⟩⟩) | (go_at_call 50; (with_reducible refine (name_compare_1.calls k a1 t179 _ A7.out).mono ?_); rintro e w' ⟨rfl, ⟨nd, rfl⟩⟩) | (go_at_call 54; (with_reducible refine (cmp_Compare_int.calls t178 t179 t180 _ A8.out).mono ?_); rintro e w' ⟨rfl, ⟨nd, rfl⟩⟩) | ((with_reducible refine gate_dst (N := 18) rfl ?_); refine Kd.R_lit (Kd.int .i64) _ 3 ?hg (N := 18) ?hd (xs := ([t177, t180] : List Int)) (inner := [.int .i64 t177, .int .i64 t180]) (ok := fun _ => True) (okp := fun _ => True) ?hr ?hp (fun _ hk => hk) trivial (Below.refl _ _) (Nat.le_refl _) (by simp) ?_; (case hd => rfl); (case hg => rfl); (case hr => first | (go_simp; done) | (go_simp; rfl)); (case hp => exact (Reps.one (show Kd.M (Kd.int .i64) _ _ _ t177 [.int .i64 t177] from rfl) (Reps.one (show Kd.M (Kd.int .i64) _ _ _ t180 [.int .i64 t180] from rfl) (Reps.none _ _)))); intro v182 w12 ho13 hb hg_ hnew_; clear hg_ hnew_; (first | rw [← Ny181.out] at ho13 | (simp only [Int.reduceToNat] at ho13; rw [← Ny181.out] at ho13)); have n0_ := Aside0.mk (Kd.R_lower ho13 (below_size (by repeat (first | (with_reducible first | exact HB.out | apply below_alloc | apply pw_below_drewN | apply below_drew1) | exact HB.out)))); have n1_ := Aside0.mk (below_step (by repeat (first | (with_reducible first | exact HB.out | apply below_alloc | apply pw_below_drewN | apply below_drew1) | exact HB.out)) hb); clear HB; have HO183 := n0_; have HB := n1_; clear n0_ n1_; clear hb ho13; obtain ⟨Ao14, co14, eo14⟩ := Kd.R_slice HO183.out; subst eo14) | (go_at_call 52; (with_reducible refine (cmp_Or_int.calls k _ _ y181 t184 _ ?side1 ?side2 A9.out).mono ?_); (case side1 => repeat (first | exact (Kd.R_reads' HO183.out).2.2 | (with_reducible refine Kd.C_alloc ?_ _) | (with_reducible refine Kd.C_drewN ?_ _) | (with_reducible refine Kd.C_drew ?_))); (case side2 => exact (Kd.R_reads' HO183.out).2.1); rintro e w' ⟨rfl, ⟨nd, rfl⟩⟩))
 go_ret
 exact ⟨by first | rfl | (simp [errW_none, errW_some] <;> rfl) | (simp [*, errW_none, errW_some] <;> rfl), by repeat (first | (with_reducible first | exact HB.out | apply below_alloc | apply pw_below_drewN | apply below_drew1) | exact HB.out)⟩
/-- A state of type 50 at block g of W; what its slices lead to came in by w0. -/
def IsS50 (w0 W : World) (g : Nat) (f0 : List Int) (f1 : Int) (f2 : Int) : Prop := ∃ A0 c0, W.heap[g]? = some (.cells #[.slice A0 f0.length c0, .int .i64 f1, .int .u64 f2] 50 (0, 0)) ∧ w0.heap.size ≤ g ∧ Kd.C (Kd.int .i64) w0 A0 f0.length f0
theorem IsS50.grown {w0 W : World} {g : Nat} {f0 : List Int} {f1 : Int} {f2 : Int} {W1 : World} {row : Option Nat} (h : IsS50 w0 W g f0 f1 f2) (hw : W.grownBy W1 row) (hne : some g ≠ row) : IsS50 w0 W1 g f0 f1 f2 := by
 obtain ⟨A0, c0, hb, hg, hr0⟩ := h
 exact ⟨A0, c0, blk_grown hb hw hne, hg, hr0⟩
theorem IsS50.fresh {w0 W : World} {g : Nat} {f0 : List Int} {f1 : Int} {f2 : Int} (h : IsS50 w0 W g f0 f1 f2) : ∀ k, W.heap.size ≤ k → k ≠ g := by
 obtain ⟨A0, c0, hb, hg, hr0⟩ := h
 exact Kd.freshB hb
theorem IsS50.kept {w0 W : World} {g : Nat} {f0 : List Int} {f1 : Int} {f2 : Int} {W1 : World} {S : Nat → Prop} (h : IsS50 w0 W g f0 f1 f2) (hk : Kept W W1 S) (hne : ¬ S g) : IsS50 w0 W1 g f0 f1 f2 := by
 obtain ⟨A0, c0, hb, hg, hr0⟩ := h
 exact ⟨A0, c0, blk_kept hb hk hne, hg, hr0⟩
theorem IsS50.below {w0 W : World} {g : Nat} {f0 : List Int} {f1 : Int} {f2 : Int} {W1 : World} (h : IsS50 w0 W g f0 f1 f2) (hw : Below W.heap.size W W1) : IsS50 w0 W1 g f0 f1 f2 := h.grown (grown_of_below hw none) (by simp)
theorem IsS50.alloc {w0 W : World} {g : Nat} {f0 : List Int} {f1 : Int} {f2 : Int} (h : IsS50 w0 W g f0 f1 f2) (o : Obj) : IsS50 w0 (W.alloc o) g f0 f1 f2 := h.below (below_alloc (Below.refl _ _) o)
theorem IsS50.drewN {w0 W : World} {g : Nat} {f0 : List Int} {f1 : Int} {f2 : Int} (h : IsS50 w0 W g f0 f1 f2) (m : Nat) : IsS50 w0 (W.drewN m) g f0 f1 f2 := h
theorem IsS50.drew {w0 W : World} {g : Nat} {f0 : List Int} {f1 : Int} {f2 : Int} (h : IsS50 w0 W g f0 f1 f2) : IsS50 w0 W.drew g f0 f1 f2 := h
theorem IsS50.at_ {w0 W : World} {g : Nat} {f0 : List Int} {f1 : Int} {f2 : Int} {w' : World} {m : Nat} (hq : W.drewN m = w') (h : IsS50 w0 W g f0 f1 f2) : IsS50 w0 w' g f0 f1 f2 := by subst hq; exact IsS50.drewN h m
theorem IsS50.apart {w0 W : World} {g : Nat} {f0 : List Int} {f1 : Int} {f2 : Int} {α : Type} {d : Kd α} {e : Nat} {base : Nat} {ok : Nat → Prop} {v : Value} {xs : List α} (h : IsS50 w0 W g f0 f1 f2) (ho : d.R e W base ok v xs) (ht : ∀ q, q ∈ e :: d.E → q ≠ 50) : d.R e W base (fun k => ok k ∧ k ≠ g) v xs := by
 obtain ⟨A0, c0, hb, hg, hr0⟩ := h
 exact Kd.R_types ho hb ht
theorem IsS50.own_ne {w0 W : World} {g : Nat} {f0 : List Int} {f1 : Int} {f2 : Int} {α : Type} {d : Kd α} {e : Nat} {base : Nat} {ok : Nat → Prop} {v : Value} {xs : List α} (h : IsS50 w0 W g f0 f1 f2) (ho : d.R e W base ok v xs) (ht : e ≠ 50) : some g ≠ v.ownBlock := by
 obtain ⟨A0, c0, hb, hg, hr0⟩ := h
 exact Kd.R_ne ho hb ht
theorem IsS50.lt {w0 W : World} {g : Nat} {f0 : List Int} {f1 : Int} {f2 : Int} (h : IsS50 w0 W g f0 f1 f2) : g < W.heap.size := by
 obtain ⟨A0, c0, hb, hg, hr0⟩ := h
 exact blk_lt hb
theorem IsS50.ge {w0 W : World} {g : Nat} {f0 : List Int} {f1 : Int} {f2 : Int} (h : IsS50 w0 W g f0 f1 f2) : w0.heap.size ≤ g := by
 obtain ⟨A0, c0, hb, hg, hr0⟩ := h
 exact hg
theorem IsS50.set_1 {w0 W : World} {g : Nat} {f0 : List Int} {f1 : Int} {f2 : Int} (h : IsS50 w0 W g f0 f1 f2) (x : Int) : IsS50 w0 (W.setCell ⟨g, 1, none⟩ (.int .i64 x)) g f0 x f2 := by
 obtain ⟨A0, c0, hb, hg, hr0⟩ := h
 exact ⟨A0, c0, by simpa using blk_set hb 1 (.int .i64 x), hg, hr0⟩
theorem IsS50.set_2 {w0 W : World} {g : Nat} {f0 : List Int} {f1 : Int} {f2 : Int} (h : IsS50 w0 W g f0 f1 f2) (x : Int) : IsS50 w0 (W.setCell ⟨g, 2, none⟩ (.int .u64 x)) g f0 f1 x := by
 obtain ⟨A0, c0, hb, hg, hr0⟩ := h
 exact ⟨A0, c0, by simpa using blk_set hb 2 (.int .u64 x), hg, hr0⟩
def wayzgoosekit_NewDice.f (l0 : List Int) : Option (List Int × Int × Int) := some (l0, 0, 11400714819323198485)
set_option maxHeartbeats 8000000 in
set_option maxRecDepth 100000 in
theorem wayzgoosekit_NewDice.calls (A0 : Option Addr) (c0 : Nat) (l0 : List Int) (r1 : List Int) (r2 : Int) (r3 : Int) (w0 w : World) (hB : Below w0.heap.size w0 w) (hr0 : Kd.C (Kd.int .i64) w0 A0 l0.length l0) (hc0 : l0.length ≤ c0) (h : wayzgoosekit_NewDice.f l0 = some (r1, r2, r3)) :
  Calls Tryz.prog 4 #[.slice A0 l0.length c0] w fun e w' => ∃ g_ : Nat, e = .returned (.pointer (some ⟨g_, 0, none⟩)) ∧ IsS50 w0 w' g_ r1 r2 r3 ∧ Below w0.heap.size w0 w' ∧ Below w.heap.size w w' := by
 have hu50 := Tryz.underlying50
 have HR0 := Aside0.mk hr0
 have HC0 := Aside0.mk hc0
 clear hr0 hc0
 have HBW := Aside0.mk (Below.refl w.heap.size w)
 have HW0 := Aside0.mk hB.size
 have HB := Aside0.mk hB
 clear hB
 have H : (some (l0, 0, 11400714819323198485)) = some (r1, r2, r3) := h
 clear h
 simp only [Option.some.injEq, Prod.mk.injEq] at H
 obtain ⟨rfl, rfl, rfl⟩ := H
 go_enter Tryz.func4, Tryz.ntmps4
 go_wp2_with (first | ((with_reducible refine gate_dst (N := 5) rfl ?_); refine box_event ?hg (N := 5) ?hd (cs := #[.slice A0 l0.length c0, .int .i64 0, .int .u64 11400714819323198485]) (t := 50) ?hr ?_; (case hd => rfl); (case hg => rfl); (case hr => first | (go_simp; done) | (go_simp; rfl)); intro gb185 hg w2 hbox hb; have n0_ := Aside0.mk (below_step HBW.out hb); have n1_ := Aside0.mk (below_step (by repeat (first | (with_reducible first | exact HB.out | apply below_alloc | apply pw_below_drewN | apply below_drew1) | exact HB.out)) hb); have n2_ := Aside0.mk (hbox); have n3_ := Aside0.mk ((by rw [hg]; exact (below_size (by repeat (first | (with_reducible first | exact HBW.out | apply below_alloc | apply pw_below_drewN | apply below_drew1) | exact HBW.out))) : w.heap.size ≤ gb185)); have n4_ := Aside0.mk ((Nat.le_trans HW0.out (by rw [hg]; exact (below_size (by repeat (first | (with_reducible first | exact HBW.out | apply below_alloc | apply pw_below_drewN | apply below_drew1) | exact HBW.out))) : w.heap.size ≤ gb185) : w0.heap.size ≤ gb185)); clear HBW; clear HB; have HBW := n0_; have HB := n1_; have BK185 := n2_; have GW185 := n3_; have GE185 := n4_; clear n0_ n1_ n2_ n3_ n4_; clear hb hbox hg))
 go_ret
 exact ⟨_, rfl, (show IsS50 w0 _ gb185 l0 0 11400714819323198485 from ⟨_, _, by (with_reducible repeat (first | refine blk_drewN ?_ _ | refine blk_drew ?_ | refine blk_alloc ?_ _)); exact BK185.out, GE185.out, HR0.out⟩), by repeat (first | (with_reducible first | exact HB.out | apply below_alloc | apply pw_below_drewN | apply below_drew1 | refine below_set ?_ GE185.out) | exact HB.out), by repeat (first | (with_reducible first | exact HBW.out | apply below_alloc | apply pw_below_drewN | apply below_drew1 | refine below_set ?_ GW185.out) | exact HBW.out)⟩
end Go.Proofs.YteoknahabkoknaaGreatDoor.P
namespace Go.Proofs.YteoknahabkoknaaGreatDoor.P
open Go.RowKit Go.Proofs.YteoknahabkoknaaGreatDoorW.PrintWords Go.Proofs.YteoknahabkoknaaGreatDoorW.PrintLast
set_option linter.unusedVariables false
set_option linter.unusedSimpArgs false
/- slices.IsSortedFunc with name.compare. -/
/-- How two names compare, by the program's own text. -/
def cmpN (a b : ByteArray) : Option Int := name_compare.f 40 a b
theorem cmpN_calls (a b : ByteArray) (r : Int) (w : World) (h : cmpN a b = some r) : Calls Tryz.prog 30 #[.string a, .string b] w fun e w' => e = .returned (.int .i64 r) ∧ Below w.heap.size w w' := name_compare.calls 40 a b r w h
def atS (l : List ByteArray) (i : Nat) : ByteArray := l.getD i ByteArray.empty
def sortedF (l : List ByteArray) : Nat → Option Bool
 | 0 => some true
 | i + 1 => (cmpN (atS l (i + 1)) (atS l i)).bind fun c => if c < 0 then some false else sortedF l i
attribute [local go_sem ↓] Go.wp_at_zero Go.wp_at_succ
set_option maxHeartbeats 4000000 in
set_option maxRecDepth 100000 in
theorem sorted_calls (A0 : Option Addr) (c0 : Nat) (l0 : List ByteArray) (r : Bool) (w : World) (hr0 : Kd.C Kd.string w A0 l0.length l0) (hc0 : l0.length ≤ c0) (hm : l0.length ≤ 1000) (h : sortedF l0 (l0.length - 1) = some r) :
  Calls Tryz.prog 29 #[.slice A0 l0.length c0, .func (.func 30) #[] #[]] w fun e w' => e = .returned (.bool r) ∧ Below w.heap.size w w' := by
 have HR := Aside0.mk hr0
 have HM := Aside0.mk hm
 have HH := Aside0.mk h
 clear hr0 h hc0
 have hw64 : wrap64 ((l0.length : Int) - 1) = (l0.length : Int) - 1 := by unfold wrap64; omega
 clear hm
 go_enter Tryz.func29, Tryz.ntmps29
 go_wp2
 go_loopw [5] (fun v wr => ∃ k : Int, v = .int .i64 k ∧ k < l0.length ∧ Hid (sortedF l0 k.toNat = some r) ∧ Aside0 (Below w.heap.size w wr)) (fun v _ => (intOf v).toNat)
 case atStart =>
  refine ⟨_, rfl, by omega, ?_, ⟨Below.refl _ _⟩⟩
  have e : ((l0.length : Int) - 1).toNat = l0.length - 1 := by omega
  rw [hw64, e]
  exact HH.out
 case round =>
  obtain ⟨k, rfl, hk, hS, hB⟩ := hrel
  by_cases h0 : 0 < k
  ·obtain ⟨k1, hk1⟩ : ∃ k1 : Int, k - 1 = k1 := ⟨_, rfl⟩
   obtain ⟨ad, rfl, hc1⟩ := Kd.at_string HR.out k (by omega) hk
   obtain ⟨ad', he, hc2⟩ := Kd.at_string HR.out k1 (by omega) (by omega)
   injection he with he
   subst he
   replace hc1 := (hB.out.cell (World.block_lt_of_cell? w _ hc1)).trans hc1
   replace hc2 := (hB.out.cell (World.block_lt_of_cell? w _ hc2)).trans hc2
   have hw : wrap64 (k - 1) = k1 := by have := HM.out; unfold wrap64; omega
   have hwi : IntKind.i64.wrap (k - 1) = k1 := by rw [i64_w]; exact hw
   have hS' : ∃ c, cmpN (rdOf ByteArray.empty l0 k) (rdOf ByteArray.empty l0 k1) = some c ∧ (if c < 0 then some false else sortedF l0 k1.toNat) = some r := by
    have hs := hS.out
    have e1 : k.toNat = k1.toNat + 1 := by omega
    rw [e1] at hs
    unfold sortedF at hs
    obtain ⟨c, hc, hs⟩ := Option.bind_eq_some_iff.1 hs
    refine ⟨c, ?_, hs⟩
    rw [← hc, show rdOf ByteArray.empty l0 k = atS l0 (k1.toNat + 1) by unfold rdOf atS; rw [e1], show rdOf ByteArray.empty l0 k1 = atS l0 k1.toNat from rfl]
   clear hS
   obtain ⟨c, hc, hs⟩ := hS'
   generalize rdOf ByteArray.empty l0 k = x at *
   generalize rdOf ByteArray.empty l0 k1 = y at *
   have HC := Aside0.mk hc
   have HS := Aside0.mk hs
   clear hc hs
   have g1 : (0 : Int) ≤ k := by omega
   have g2 : (0 : Int) ≤ k1 := by omega
   have g3 : k1 < (l0.length : Int) := by omega
   have l1 := World.block_lt_of_cell? wr _ hc1
   have l2 := World.block_lt_of_cell? wr _ hc2
   have HK := Aside0.mk hk1
   clear hk1
   go_wp2_with fail
   go_region_held3 (fun w' => w'.cell? (ad.add k.toNat) = some (.string x) ∧ w'.cell? (ad.add k1.toNat) = some (.string y)) (first | go_keep | exact ⟨(hb.cell (by first | exact l1 | simpa using l1)).trans (by assumption), (hb.cell (by first | exact l2 | simpa using l2)).trans (by assumption)⟩)
    (first | (go_at_call 30; refine (cmpN_calls x y c _ HC.out).mono ?_; rintro e w2 ⟨rfl, hb⟩))
   have hB2 : Below w.heap.size w w2 := below_then (below_drew1 hB.out) (hB.out.size) hb
   have HB2 := Aside0.mk hB2
   clear hb hB2
   by_cases hc0 : c < 0
   ·have hr : r = false := by have := HS.out; rw [if_pos hc0] at this; exact (Option.some.inj this).symm
    subst hr
    go_wp2
    go_ret
    exact ⟨rfl, HB2.out⟩
   ·have hs := HS.out
    rw [if_neg hc0] at hs
    have HS2 := Aside0.mk hs
    clear HS hs
    go_wp2
    go_roundw
    case rel => exact HS2.out
    case measure => have := HK.out; simp [intOf]; omega
  ·have hr : r = true := by
    have hs := hS.out
    rw [show k.toNat = 0 by omega] at hs
    exact (Option.some.inj hs).symm
   subst hr
   clear hS HH
   go_wp2
   go_ret
   exact ⟨rfl, hB.out⟩
end Go.Proofs.YteoknahabkoknaaGreatDoor.P
namespace Go.Proofs.YteoknahabkoknaaGreatDoor.P
open Go.RowKit Go.Proofs.YteoknahabkoknaaGreatDoorW.PrintWords Go.Proofs.YteoknahabkoknaaGreatDoorW.PrintLast
set_option linter.unusedVariables false
set_option linter.unusedSimpArgs false
attribute [local go_sem ↓] Go.wp_at_zero Go.wp_at_succ
/- name.Sort: the closure that compares two indices, and slices.insertionSortCmpFunc with it. -/
/-- How two indices of a list of names compare. -/
def cmpI (l : List ByteArray) (a b : Int) : Option Int := cmpN (rdOf ByteArray.empty l a) (rdOf ByteArray.empty l b)
set_option maxHeartbeats 4000000 in
set_option maxRecDepth 100000 in
theorem sortc_calls (gb : Nat) (A0 : Option Addr) (c0 : Nat) (l0 : List ByteArray) (a b c : Int) (w : World) (hbox : w.heap[gb]? = some (.cells #[.slice A0 l0.length c0] 25 (0, 0))) (hr0 : Kd.C Kd.string w A0 l0.length l0) (hc0 : l0.length ≤ c0)
  (ha0 : 0 ≤ a) (ha : a < l0.length) (hb0 : 0 ≤ b) (hb : b < l0.length) (h : cmpI l0 a b = some c) :
  Calls Tryz.prog 39 #[.int .i64 a, .int .i64 b, .pointer (some ⟨gb, 0, none⟩)] w fun e w' => e = .returned (.int .i64 c) ∧ Below w.heap.size w w' := by
 obtain ⟨ad, rfl, hc1⟩ := Kd.at_string hr0 a ha0 ha
 obtain ⟨ad', he, hc2⟩ := Kd.at_string hr0 b hb0 hb
 injection he with he
 subst he
 unfold cmpI at h
 generalize rdOf ByteArray.empty l0 a = x at *
 generalize rdOf ByteArray.empty l0 b = y at *
 have HC := Aside0.mk h
 have hcb : w.cell? ⟨gb, 0, none⟩ = some (.slice (some ad) l0.length c0) := (blk_cell hbox 0).trans rfl
 have l0' := World.block_lt_of_cell? w _ hcb
 have l1 := World.block_lt_of_cell? w _ hc1
 have l2 := World.block_lt_of_cell? w _ hc2
 clear h hr0 hbox
 go_enter Tryz.func39, Tryz.ntmps39
 go_wp2_with fail
 go_region_held3 (fun w' => w'.cell? ⟨gb, 0, none⟩ = some (.slice (some ad) l0.length c0) ∧ w'.cell? (ad.add a.toNat) = some (.string x) ∧ w'.cell? (ad.add b.toNat) = some (.string y)) (first | go_keep | exact ⟨(hb'.cell (by first | exact l0' | simpa using l0')).trans (by assumption), (hb'.cell (by first | exact l1 | simpa using l1)).trans (by assumption), (hb'.cell (by first | exact l2 | simpa using l2)).trans (by assumption)⟩)
  (first | (go_at_call 30; refine (cmpN_calls x y c _ HC.out).mono ?_; rintro e w2 ⟨rfl, hb'⟩))
 have hB2 : Below w.heap.size w w2 := below_then (below_drew1 (Below.refl _ _)) (Nat.le_refl _) hb'
 clear hb'
 go_wp2
 go_ret
 exact ⟨rfl, hB2⟩
def swapD (d : List Int) (j : Nat) : List Int := (d.set (j + 1) (d.getD j 0)).set j (d.getD (j + 1) 0)
def innerF (l : List ByteArray) : List Int → Nat → Option (List Int)
 | d, 0 => some d
 | d, j + 1 => (cmpI l (d.getD (j + 1) 0) (d.getD j 0)).bind fun c => if c < 0 then innerF l (swapD d j) j else some d
def outerF (l : List ByteArray) : Nat → List Int → Nat → Option (List Int)
 | 0, d, _ => some d
 | m + 1, d, i => (innerF l d i).bind fun d' => outerF l m d' (i + 1)
theorem grown_drew {w W : World} {r : Option Nat} (h : w.grownBy W r) : w.grownBy W.drew r := ⟨h.os, h.tape, h.output, h.size, h.block⟩
theorem results_none {P : Program} {fn : Func} (h : fn.results = #[]) (tmps : Array Value) (w : World) : (results fn tmps).run P w = .ok (.tuple #[]) w := by
 unfold results
 rw [h]
 simp
/-- Each is an index. -/
def InL (l : List ByteArray) (d : List Int) : Prop := ∀ x ∈ d, 0 ≤ x ∧ x < l.length
theorem InL.get {l : List ByteArray} {d : List Int} (h : InL l d) (k : Int) (h0 : 0 ≤ k) (h1 : k < d.length) : 0 ≤ rdOf 0 d k ∧ rdOf 0 d k < l.length := by
 unfold rdOf
 rw [List.getD_eq_getElem?_getD, List.getElem?_eq_getElem (by omega)]
 exact h _ (List.getElem_mem _)
theorem InL.swap {l : List ByteArray} {d : List Int} (h : InL l d) (j : Nat) (hj : j + 1 < d.length) : InL l (swapD d j) := by
 have g := fun (k : Nat) (hk : k < d.length) => h.get (k : Int) (by omega) (by omega)
 unfold rdOf at g
 simp only [Int.toNat_natCast] at g
 intro x hx
 unfold swapD at hx
 rcases List.mem_or_eq_of_mem_set hx with hx | hx
 ·rcases List.mem_or_eq_of_mem_set hx with hx | hx
  ·exact h x hx
  ·rw [hx]; exact g j (by omega)
 ·rw [hx]; exact g (j + 1) hj
set_option maxHeartbeats 8000000 in
set_option maxRecDepth 100000 in
theorem ins_calls (B gb g n cap : Nat) (A0 : Option Addr) (c0 : Nat) (l0 : List ByteArray) (d r : List Int) (w : World) (hbox : w.heap[gb]? = some (.cells #[.slice A0 l0.length c0] 25 (0, 0))) (hne : gb ≠ g) (hBg : B ≤ g) (hBw : B ≤ w.heap.size) (hr0 : ∀ w', Below B w w' → Kd.C Kd.string w' A0 l0.length l0) (hc0 : l0.length ≤ c0)
  (hd : Kd.R (Kd.int .i64) 3 w B (fun _ => True) (.slice (some ⟨g, 0, none⟩) n cap) d) (hn1 : 1 ≤ n) (hn : n ≤ 1000) (hin : InL l0 d) (h : outerF l0 (n - 1) d 1 = some r) :
  Calls Tryz.prog 69 #[.slice (some ⟨g, 0, none⟩) n cap, .int .i64 0, .int .i64 n, .func (.func 39) #[] #[.pointer (some ⟨gb, 0, none⟩)]] w fun e w' => e = .returned (.tuple #[]) ∧ Kd.R (Kd.int .i64) 3 w' B (fun _ => True) (.slice (some ⟨g, 0, none⟩) n cap) r ∧ w.grownBy w' (some g) := by
 have HX := Aside0.mk hbox
 have HR := Aside0.mk hr0
 have HC0 := Aside0.mk hc0
 have HD := Aside0.mk hd
 have HI := Aside0.mk hin
 have HH := Aside0.mk h
 have hdl : n = d.length := (Kd.R_reads' hd).1
 have HDL := Aside0.mk hdl
 have HN1 := Aside0.mk hn1
 clear hbox hr0 hc0 hd hin h hdl hn1
 go_enter Tryz.func69, Tryz.ntmps69
 go_wp2
 go_loopw [8] (fun v wr => ∃ (i : Int) (d1 : List Int), v = .int .i64 i ∧ 1 ≤ i ∧ i ≤ n ∧ Hid (outerF l0 (n - i.toNat) d1 i.toNat = some r) ∧ Aside0 (Kd.R (Kd.int .i64) 3 wr B (fun _ => True) (.slice (some ⟨g, 0, none⟩) n cap) d1) ∧ Aside0 (w.grownBy wr (some g)) ∧ Aside0 (InL l0 d1)) (fun v _ => n - (intOf v).toNat)
 case atStart => exact ⟨1, d, rfl, by omega, by have := HN1.out; omega, HH.out, HD, ⟨World.grownBy.refl _ _⟩, HI⟩
 case round =>
  obtain ⟨i, d1, rfl, hi1, hin, hS, hR, hG, hI⟩ := hrel
  clear HD HI HH HDL
  by_cases hlt : i < n
  ·have hS1 : (innerF l0 d1 i.toNat).bind (fun d' => outerF l0 (n - (i.toNat + 1)) d' (i.toNat + 1)) = some r := by
    have hs := hS.out
    rw [show n - i.toNat = (n - (i.toNat + 1)) + 1 by omega] at hs
    exact hs
   have HS1 := Aside0.mk hS1
   clear hS hS1
   go_wp2
   go_loopw [9] (fun v w2 => ∃ (k : Int) (d2 : List Int), v = .int .i64 k ∧ 0 ≤ k ∧ k ≤ i ∧ Hid ((innerF l0 d2 k.toNat).bind (fun d' => outerF l0 (n - (i.toNat + 1)) d' (i.toNat + 1)) = some r) ∧ Aside0 (Kd.R (Kd.int .i64) 3 w2 B (fun _ => True) (.slice (some ⟨g, 0, none⟩) n cap) d2) ∧ Aside0 (w.grownBy w2 (some g)) ∧ Aside0 (InL l0 d2)) (fun v _ => (intOf v).toNat)
   case atStart => exact ⟨i, d1, rfl, by omega, by omega, HS1.out, hR, hG, hI⟩
   case round =>
    clear hR hG hI HS1
    obtain ⟨k, d2, rfl, hk0, hki, hS, hR, hG, hI⟩ := hrel
    by_cases hk : 0 < k
    ·obtain ⟨k1, hk1⟩ : ∃ k1 : Int, k - 1 = k1 := ⟨_, rfl⟩
     have hw : wrap64 (k - 1) = k1 := by unfold wrap64; omega
     have hwi : IntKind.i64.wrap (k - 1) = k1 := by rw [i64_w]; exact hw
     have hdl := (Kd.R_reads' hR.out).1
     obtain ⟨hc1, hf1⟩ := Kd.R_celln (enc := Value.int .i64) 0 hR.out k (by omega) (by omega)
     obtain ⟨hc2, hf2⟩ := Kd.R_celln (enc := Value.int .i64) 0 hR.out k1 (by omega) (by omega)
     have hx1 := hI.out.get k (by omega) (by omega)
     have hx2 := hI.out.get k1 (by omega) (by omega)
     have hS' : ∃ c, cmpI l0 (rdOf 0 d2 k) (rdOf 0 d2 k1) = some c ∧ ((if c < 0 then innerF l0 (swapD d2 k1.toNat) k1.toNat else some d2).bind (fun d' => outerF l0 (n - (i.toNat + 1)) d' (i.toNat + 1))) = some r := by
      have hs := hS.out
      have e1 : k.toNat = k1.toNat + 1 := by omega
      rw [e1] at hs
      unfold innerF at hs
      obtain ⟨d', hs1, hs2⟩ := Option.bind_eq_some_iff.1 hs
      obtain ⟨c, hc, hs3⟩ := Option.bind_eq_some_iff.1 hs1
      refine ⟨c, ?_, by rw [hs3]; exact hs2⟩
      rw [← hc, show rdOf 0 d2 k = d2.getD (k1.toNat + 1) 0 by unfold rdOf; rw [e1], show rdOf 0 d2 k1 = d2.getD k1.toNat 0 from rfl]
     clear hS
     obtain ⟨c, hc, hs⟩ := hS'
     have hsw : (d2.set k.toNat (rdOf 0 d2 k1)).set k1.toNat (rdOf 0 d2 k) = swapD d2 k1.toNat := by
      unfold swapD rdOf
      rw [show k.toNat = k1.toNat + 1 by omega]
     have hI2 := hI.out.swap k1.toNat (by omega)
     generalize rdOf 0 d2 k = x at *
     generalize rdOf 0 d2 k1 = y at *
     have HSW := Aside0.mk hsw
     have HI2 := Aside0.mk hI2
     have HC := Aside0.mk hc
     have HS := Aside0.mk hs
     have HX1 := Aside0.mk hx1
     have HX2 := Aside0.mk hx2
     clear hc hs hsw hI2 hx1 hx2
     have g1 : (0 : Int) ≤ k := by omega
     have g2 : (0 : Int) ≤ k1 := by omega
     have g3 : k1 < (n : Int) := by omega
     have g4 : k < (n : Int) := by omega
     have l1 := World.block_lt_of_cell? _ _ hc1
     have HK := Aside0.mk hk1
     have HDL := Aside0.mk hdl
     clear hk1 hdl
     have hbx := Aside0.mk ((hG.out.block gb (blk_lt HX.out) (by intro he; injection he with he; exact hne he)).trans HX.out)
     have hBel : Below B w wr := (Below.refl B w).grown hG.out hBw (fun j hj => by cases hj; exact hBg)
     have hrr := Aside0.mk (HR.out _ hBel)
     go_wp2_with fail
     go_region_held3 (fun w' => w'.cell? ⟨g, k.toNat, none⟩ = some (.int .i64 x) ∧ w'.cell? ⟨g, k1.toNat, none⟩ = some (.int .i64 y)) (first | go_keep | exact ⟨(hb.cell (by first | exact l1 | simpa using l1)).trans (by assumption), (hb.cell (by first | exact l1 | simpa using l1)).trans (by assumption)⟩)
      (first | (go_at_call 39; refine (sortc_calls gb A0 c0 l0 x y c _ (by exact hbx.out) (Kd.C_drew hrr.out) HC0.out HX1.out.1 HX1.out.2 HX2.out.1 HX2.out.2 HC.out).mono ?_; rintro e w3 ⟨rfl, hb⟩))
     rename_i hHeld
     by_cases hc0 : c < 0
     ·have hs := HS.out
      rw [if_pos hc0] at hs
      have HS2 := Aside0.mk hs
      clear HS hs
      have hR3 : Kd.R (Kd.int .i64) 3 w3 B (fun _ => True) (.slice (some ⟨g, 0, none⟩) n cap) d2 := Kd.R_below (Kd.R_drew hR.out) hb
      have hG3 : w.grownBy w3 (some g) := hG.out.trans ⟨hb.os, hb.tape, hb.output, hb.size, fun i hi _ => hb.block i hi⟩
      have hdl := HDL.out
      have hf1 := (Kd.R_celln (enc := Value.int .i64) 0 hR3 k (by omega) (by omega)).2
      have hf2 := (Kd.R_celln (enc := Value.int .i64) 0 hR3 k1 (by omega) (by omega)).2
      obtain ⟨hR4, hG4⟩ := Kd.R_putg (enc := Value.int .i64) hR3 k y
      have hc4 := (Kd.R_celln (enc := Value.int .i64) 0 hR4 k1 (by omega) (by omega)).1
      have hf4 := (Kd.R_celln (enc := Value.int .i64) 0 hR4 k1 (by omega) (by omega)).2
      obtain ⟨hR5, hG5⟩ := Kd.R_putg (enc := Value.int .i64) hR4 k1 x
      rw [HSW.out] at hR5
      have HR5 := Aside0.mk hR5
      have HG5 := Aside0.mk ((hG3.trans hG4).trans hG5)
      clear hdl hR4 hG4 hR5 hG5
      generalize rdOf 0 (d2.set k.toNat y) k1 = z at *
      obtain ⟨hd1, hd2⟩ := hHeld
      clear hR3 hG3 hb hc1 hc2
      go_wp2_with fail
      go_region
      go_wp2
      go_roundw
      case rel => exact ⟨k1, _, rfl, g2, by have := HK.out; omega, HS2.out, HR5, ⟨grown_drew HG5.out⟩, HI2⟩
      case measure => have := HK.out; simp [intOf]; omega
     ·have hs := HS.out
      rw [if_neg hc0] at hs
      have hs2 : outerF l0 (n - (i.toNat + 1)) d2 (i.toNat + 1) = some r := hs
      have hR3 := Aside0.mk (Kd.R_below (Kd.R_drew hR.out) hb)
      have hG3 := Aside0.mk (hG.out.trans (⟨hb.os, hb.tape, hb.output, hb.size, fun i hi _ => hb.block i hi⟩ : wr.grownBy w3 (some g)))
      have HS2 := Aside0.mk hs2
      have hwi : wrap64 (i + 1) = i + 1 := by unfold wrap64; omega
      clear HS hs hs2 hb hc1 hc2 hHeld
      go_wp2
      go_roundw
      case rel => exact ⟨i + 1, d2, rfl, by omega, by omega, by rw [show (i + 1).toNat = i.toNat + 1 by omega]; exact HS2.out, hR3, hG3, hI⟩
      case measure => simp [intOf]; omega
    ·have hs2 : outerF l0 (n - (i.toNat + 1)) d2 (i.toNat + 1) = some r := by
      have hs := hS.out
      rw [show k.toNat = 0 by omega] at hs
      exact hs
     have HS2 := Aside0.mk hs2
     have hk00 : k = 0 := by omega
     subst hk00
     have hwi : wrap64 (i + 1) = i + 1 := by unfold wrap64; omega
     clear hS hs2
     go_wp2_with fail
     go_region
     go_wp2
     go_roundw
     case rel => exact ⟨i + 1, d2, rfl, by omega, by omega, by rw [show (i + 1).toNat = i.toNat + 1 by omega]; exact HS2.out, ⟨Kd.R_drew hR.out⟩, ⟨grown_drew hG.out⟩, hI⟩
     case measure => simp [intOf]; omega
  ·have hi : i = n := by omega
   subst hi
   have hr : d1 = r := by
    have hs := hS.out
    rw [show n - (n : Int).toNat = 0 by omega] at hs
    exact Option.some.inj hs
   subst hr
   clear hS
   go_wp2
   refine ⟨rfl, .tuple #[], results_none rfl _ _, rfl, hR.out, hG.out⟩
end Go.Proofs.YteoknahabkoknaaGreatDoor.P
namespace Go.Proofs.YteoknahabkoknaaGreatDoor.P
open Go.RowKit Go.Proofs.YteoknahabkoknaaGreatDoorW.PrintWords Go.Proofs.YteoknahabkoknaaGreatDoorW.PrintLast
set_option linter.unusedVariables false
set_option linter.unusedSimpArgs false
/- name.Check at every string: its error. -/
/-- The kind of a letter. -/
def kindN (n : Nat) : Int := if 97 ≤ n ∧ n ≤ 122 then 1 else if 65 ≤ n ∧ n ≤ 90 ∧ n ≠ 72 ∧ n ≠ 81 ∧ n ≠ 87 then 2 else 0
theorem kindN_big {n : Nat} (h : 128 ≤ n) : kindN n = 0 := by unfold kindN; rw [if_neg (by omega), if_neg (by omega)]
theorem kind_eq (n : Nat) : ∃ k, name_kind.f k (n : Int) = some (kindN n) := by
 refine ⟨1, ?_⟩
 unfold name_kind.f kindN
 by_cases h1 : 97 ≤ n
 ·rw [if_pos (by omega)]
  simp only [name_kind.j0]
  by_cases h2 : n ≤ 122
  ·rw [if_pos (by simp; omega), if_pos ⟨h1, h2⟩]
  ·rw [if_neg (by simp; omega), if_pos (by omega), if_neg (by omega), if_neg (by omega), if_neg (by omega)]
 ·rw [if_neg (by omega), if_neg (by omega)]
  simp only [name_kind.j0, Bool.false_eq_true, if_false]
  by_cases h3 : 65 ≤ n
  ·rw [if_pos (by omega)]
   by_cases h4 : n ≤ 90
   ·rw [if_pos (by omega)]
    unfold strings_ContainsRune.f
    rw [if_pos (by omega), if_pos (by omega)]
    simp only [Option.bind_some]
    have hb : ∀ m : Nat, 65 ≤ m → m ≤ 90 → (if decide (0 ≤ Lib.indexByte (⟨#[72, 81, 87]⟩ : ByteArray).data.toList ((m : Int).toNat.toUInt8)) = true then some (0 : Int) else some 2) = some (if 65 ≤ m ∧ m ≤ 90 ∧ m ≠ 72 ∧ m ≠ 81 ∧ m ≠ 87 then 2 else 0) := by
     intro m h5 h6
     have : m = 65 ∨ m = 66 ∨ m = 67 ∨ m = 68 ∨ m = 69 ∨ m = 70 ∨ m = 71 ∨ m = 72 ∨ m = 73 ∨ m = 74 ∨ m = 75 ∨ m = 76 ∨ m = 77 ∨ m = 78 ∨ m = 79 ∨ m = 80 ∨ m = 81 ∨ m = 82 ∨ m = 83 ∨ m = 84 ∨ m = 85 ∨ m = 86 ∨ m = 87 ∨ m = 88 ∨ m = 89 ∨ m = 90 := by omega
     rcases this with rfl | rfl | rfl | rfl | rfl | rfl | rfl | rfl | rfl | rfl | rfl | rfl | rfl | rfl | rfl | rfl | rfl | rfl | rfl | rfl | rfl | rfl | rfl | rfl | rfl | rfl <;> decide
    exact hb n h3 h4
   ·rw [if_neg (by omega), if_neg (by omega)]
  ·rw [if_neg (by omega), if_neg (by omega)]
/-- What the loop comes to, from the kind of the first letter on (0: none yet). -/
def chk (first : Int) : List UInt8 → Int
 | [] => 0
 | b :: bs => let k := kindN b.toNat; let f := if first = 0 then k else first; if k = 0 ∨ k ≠ f then 2 else chk f bs
def name_Check.f (a0 : ByteArray) : Option (Int) := if a0.size = 0 then some 7 else if 6 < a0.size then some 10 else some (chk 0 a0.data.toList)
theorem kind_calls (n : Nat) (w : World) : Calls Tryz.prog 51 #[.int .i32 (n : Int)] w fun e w' => e = .returned (.int .i64 (kindN n)) ∧ Drawn0 w w' := by
 obtain ⟨k, h⟩ := kind_eq n
 exact name_kind.calls k _ _ w h
theorem below_iter {B : Nat} {w W : World} (h : Below B w W) (hB : B ≤ W.heap.size) (s : ByteArray) (p : Nat) : Below B w (W.iter s p) := h.alloc hB _
theorem iter_draws (w : World) (s : ByteArray) (p n m : Nat) : ((w.drewN n).iter s p).drewN m = (w.drewN (n + m)).iter s p := by
 show ((w.drewN n).drewN m).iter s p = _
 rw [World.drewN_drewN]
theorem below_it {w : World} (n m p : Nat) (s : ByteArray) : Below w.heap.size w (((w.drewN n).iter s p).drewN m) := pw_below_drewN (below_iter (pw_below_drewN (Below.refl _ _) n) (Nat.le_refl _) s p) m
theorem below_it0 {w : World} (n p : Nat) (s : ByteArray) : Below w.heap.size w ((w.drewN n).iter s p) := below_iter (pw_below_drewN (Below.refl _ _) n) (Nat.le_refl _) s p
set_option maxHeartbeats 4000000 in
set_option maxRecDepth 100000 in
theorem name_Check.calls (a0 : ByteArray) (r : Int) (w : World) (h : name_Check.f a0 = some r) :
  Calls Tryz.prog 40 #[.string a0] w fun e w' => e = .returned (.int .i64 r) ∧ Below w.heap.size w w' := by
 have HH := Aside0.mk h
 clear h
 by_cases e0 : a0.size = 0
 ·have := HH.out
  unfold name_Check.f at this
  rw [if_pos e0] at this
  obtain rfl := Option.some.inj this
  have e1 : ((a0.size : Int) == 0) = true := by simp [e0]
  clear this HH e0
  go_enter Tryz.func40, Tryz.ntmps40
  go_wp2
  go_ret
  exact ⟨rfl, Below.refl _ _⟩
 have e1 : ((a0.size : Int) == 0) = false := by simp [e0]
 by_cases e6 : 6 < a0.size
 ·have := HH.out
  unfold name_Check.f at this
  rw [if_neg e0, if_pos e6] at this
  obtain rfl := Option.some.inj this
  have e2 : (6 : Int) < (a0.size : Int) := by omega
  clear this HH e0 e6
  go_enter Tryz.func40, Tryz.ntmps40
  go_wp2
  go_ret
  exact ⟨rfl, Below.refl _ _⟩
 have hr : r = chk 0 a0.data.toList := by
  have := HH.out
  unfold name_Check.f at this
  rw [if_neg e0, if_neg e6] at this
  exact (Option.some.inj this).symm
 have HR := Aside0.mk hr
 have e2 : ¬ (6 : Int) < (a0.size : Int) := by omega
 clear hr HH e0 e6
 go_enter Tryz.func40, Tryz.ntmps40
 go_wp2
 go_loopw [3] (fun f wr => ∃ (n pos : Nat) (fst : Int), wr = (w.drewN n).iter a0 pos ∧ f = .int .i64 fst ∧ Hid (chk fst (a0.data.toList.drop pos) = r) ∧ pos ≤ a0.size) (fun _ wr => a0.size - wr.iterPos w.heap.size)
 case atStart => exact ⟨0, 0, 0, rfl, rfl, HR.out.symm, Nat.zero_le _⟩
 case round =>
  obtain ⟨n, pos, fst, rfl, rfl, hc, hle⟩ := hrel
  have hps : ((w.drewN n).iter a0 pos).iterPos w.heap.size = pos := World.iterPos_iter (w.drewN n) a0 pos
  have HPS := Aside0.mk hps
  clear hps
  by_cases hp : pos < a0.size
  ·have hdrop : a0.data.toList.drop pos = a0[pos] :: a0.data.toList.drop (pos + 1) := List.drop_eq_getElem_cons (by simpa using hp)
   have hc2 : chk fst (a0[pos] :: a0.data.toList.drop (pos + 1)) = r := hdrop ▸ hc.out
   obtain ⟨c, p2, hnx, hk, hp2, hp3⟩ : ∃ (c : Nat) (p2 : Nat), (∀ ty, (Instr.next (.pointer (some ⟨w.heap.size, 0, none⟩)) true ty).run Tryz.prog ((w.drewN n).iter a0 pos) = .ok (.tuple #[.bool true, .int .i64 pos, .int .i32 (c : Int)]) ((w.drewN n).iter a0 p2)) ∧ kindN c = kindN a0[pos].toNat ∧ (kindN c ≠ 0 → p2 = pos + 1) ∧ pos < p2 := by
    by_cases ha : a0[pos].toNat < 128
    ·exact ⟨a0[pos].toNat, pos + 1, fun ty => run_next_ascii (w.drewN n) a0 pos ty hp ha, rfl, fun _ => rfl, by omega⟩
    ·have hh := decode_high a0 pos hp (by omega)
     refine ⟨(Utf8.decode a0 pos).1, pos + (Utf8.decode a0 pos).2, fun ty => run_next_any (w.drewN n) a0 pos ty hp, ?_, fun h => absurd (kindN_big hh.1) h, by omega⟩
     rw [kindN_big hh.1, kindN_big (by omega)]
   have hc3 : (if kindN c = 0 ∨ kindN c ≠ (if fst = 0 then kindN c else fst) then (2 : Int) else chk (if fst = 0 then kindN c else fst) (a0.data.toList.drop (pos + 1))) = r := by
    rw [hk]; exact hc2
   have HC := Aside0.mk hc3
   have HQ := Aside0.mk hp2
   have hcall : ∀ w, Calls Tryz.prog 51 #[.int .i32 (c : Int)] w fun e w' => e = .returned (.int .i64 (kindN c)) ∧ Drawn0 w w' := fun w => kind_calls c w
   clear hc hc2 hc3 hk hp2 hdrop
   generalize kindN c = K at *
   have HCALL := Aside0.mk hcall
   clear hcall
   by_cases k0 : K = 0
   ·obtain rfl : r = 2 := by have := HC.out; rw [if_pos (.inl k0)] at this; exact this.symm
    have k1 : (K == 0) = true := by simp [k0]
    have HK0 := Aside0.mk k0
    clear k0
    go_wp2_with (go_at_call 51; refine (HCALL.out _).mono ?_; rintro e w' ⟨rfl, ⟨nd, rfl⟩⟩)
    all_goals go_ret
    all_goals exact ⟨rfl, by first | exact below_it _ _ _ _ | exact below_it0 _ _ _⟩
   ·have hq := HQ.out k0
    subst hq
    have k1 : (K == 0) = false := by simp [k0]
    have hR := HC.out
    clear HC HQ
    by_cases f0 : fst = 0
    ·have f1 : (fst == 0) = true := by simp [f0]
     have k2 : (K != K) = false := by simp
     rw [if_pos f0, if_neg (by simp [k0])] at hR
     have HR2 := Aside0.mk hR
     have HK0 := Aside0.mk k0
     clear k0 f0 hR
     go_wp2_with (go_at_call 51; refine (HCALL.out _).mono ?_; rintro e w' ⟨rfl, ⟨nd, rfl⟩⟩)
     go_roundw
     case rel => exact ⟨n + nd, pos + 1, K, iter_draws _ _ _ _ _, rfl, HR2.out, by omega⟩
     case measure =>
      have e1 : World.iterPos ((w.drewN (n + nd)).iter a0 (pos + 1)) w.heap.size = pos + 1 := World.iterPos_iter (w.drewN (n + nd)) a0 (pos + 1)
      have e2 := HPS.out
      rw [iter_draws, e1, e2]; omega
    ·have f1 : (fst == 0) = false := by simp [f0]
     by_cases kf : K = fst
     ·have k2 : (K != fst) = false := by simp [kf]
      rw [if_neg f0, if_neg (by rintro (h | h); exact k0 h; exact h kf)] at hR
      have HR2 := Aside0.mk hR
      have HK0 := Aside0.mk k0
      clear k0 f0 hR kf
      go_wp2_with (go_at_call 51; refine (HCALL.out _).mono ?_; rintro e w' ⟨rfl, ⟨nd, rfl⟩⟩)
      go_roundw
      case rel => exact ⟨n + nd, pos + 1, fst, iter_draws _ _ _ _ _, rfl, HR2.out, by omega⟩
      case measure =>
       have e1 : World.iterPos ((w.drewN (n + nd)).iter a0 (pos + 1)) w.heap.size = pos + 1 := World.iterPos_iter (w.drewN (n + nd)) a0 (pos + 1)
       have e2 := HPS.out
       rw [iter_draws, e1, e2]; omega
     ·have k2 : (K != fst) = true := by simp [kf]
      rw [if_neg f0, if_pos (.inr kf)] at hR
      obtain rfl := hR
      have HK0 := Aside0.mk k0
      clear k0 f0 kf
      go_wp2_with (go_at_call 51; refine (HCALL.out _).mono ?_; rintro e w' ⟨rfl, ⟨nd, rfl⟩⟩)
      all_goals go_ret
      all_goals exact ⟨rfl, by first | exact below_it _ _ _ _ | exact below_it0 _ _ _⟩
  ·have hnx : ∀ ty, (Instr.next (.pointer (some ⟨w.heap.size, 0, none⟩)) true ty).run Tryz.prog ((w.drewN n).iter a0 pos) = _ := fun ty => run_next_end (w.drewN n) a0 pos ty hp
   have hc2 : r = 0 := by
    have := hc.out
    rw [List.drop_of_length_le (by simp; omega)] at this
    exact this.symm
   subst hc2
   clear hc hp
   go_wp2
   go_ret
   exact ⟨rfl, (pw_below_drewN (Below.refl _ _) _).alloc (Nat.le_refl _) _⟩
end Go.Proofs.YteoknahabkoknaaGreatDoor.P
namespace Go.Proofs.YteoknahabkoknaaGreatDoor.P
open Go.RowKit Go.Proofs.YteoknahabkoknaaGreatDoorW.PrintWords Go.Proofs.YteoknahabkoknaaGreatDoorW.PrintLast Go.Proofs.YteoknahabkoknaaGreatDoorW.PrintMore
attribute [local go_sem] max2_int min2_int max_two min_two max_three min_three max_four min_four   -- for this text's walks alone
set_option linter.unusedVariables false
set_option linter.unusedSimpArgs false
def name_checked.l0 : Nat → List ByteArray → Int → Int → Option (Int)
 | 0, _, _, _ => none
 | k + 1, x6, x7, x8 => if x8 < x7 then (if 0 ≤ x8 then (if x8 < (x6.length : Int) then ((name_Check.f (rdOf ByteArray.empty x6 x8)).bind fun t255 => (if t255 = 0 then (name_checked.l0 k x6 x7 (wrap64 (x8 + 1))) else (some t255))) else (none)) else (none)) else (some 0)
def name_checked.f (k : Nat) (l0 : List ByteArray) : Option (Int) := name_checked.l0 k l0 (l0.length : Int) 0
set_option maxHeartbeats 8000000 in
set_option maxRecDepth 100000 in
theorem name_checked.calls (k : Nat) (A0 : Option Addr) (c0 : Nat) (l0 : List ByteArray) (r : Int) (w : World) (hr0 : Kd.C Kd.string w A0 l0.length l0) (hc0 : l0.length ≤ c0) (h : name_checked.f k l0 = some r) :
  Calls Tryz.prog 49 #[.slice A0 l0.length c0] w fun e w' => e = .returned (.int .i64 r) ∧ Below w.heap.size w w' := by
 have HR0 := Aside0.mk hr0
 have HC0 := Aside0.mk hc0
 clear hr0 hc0
 have HB := Aside0.mk (Below.refl w.heap.size w)
 have H : (name_checked.l0 k l0 (l0.length : Int) 0) = some r := h
 clear h
 have H' := Aside0.mk H
 clear H
 go_enter Tryz.func49, Tryz.ntmps49
 go_wp2
 go_loopg [8] k (fun kq v8 w' => ∃ (x8_1 : Int), v8 = .int .i64 x8_1 ∧ Aside0 (name_checked.l0 kq l0 (l0.length : Int) x8_1 = some r) ∧ Aside0 (kq ≤ k) ∧ Aside0 (Below w.heap.size w w'))
 case atStart => exact ⟨(0), (by first | rfl | (simp; done) | (simp [*]; done)), H', ⟨Nat.le_refl _⟩, ⟨by repeat (first | (with_reducible first | exact HB.out | apply below_alloc | apply pw_below_drewN | apply below_drew1) | exact HB.out)⟩⟩
 case round =>
  clear H'
  obtain ⟨x8_1, rfl, HA, HK1, HB⟩ := hrel
  cases gk with
  | zero => exact absurd HA.out (by simp [name_checked.l0])
  | succ k1 =>
   have H := HA.out
   clear HA
   simp only [name_checked.l0] at H
   by_cases c2 : x8_1 < (l0.length : Int)
   ·rw [if_pos c2] at H
    have c2b0 : decide (x8_1 < (l0.length : Int)) = true := decide_eq_true c2
    clear c2
    by_cases c3 : 0 ≤ x8_1
    ·rw [if_pos c3] at H
     have c3b0 : decide (0 ≤ x8_1) = true := decide_eq_true c3
     clear c3
     by_cases c4 : x8_1 < (l0.length : Int)
     ·rw [if_pos c4] at H
      have c4b0 : decide (x8_1 < (l0.length : Int)) = true := decide_eq_true c4
      clear c4
      replace H := Option.bind_eq_some_iff.mp H
      obtain ⟨t255, A50, H⟩ := H
      try dsimp only at H
      have A5 := Aside0.mk A50
      clear A50
      by_cases c6 : t255 = 0
      ·rw [if_pos c6] at H
       have c6b0 : (t255 == 0) = true := beq_iff_eq.mpr c6
       have c6b1 : (t255 != 0) = false := bne_eq_false_iff_eq.mpr c6
       clear c6
       have H' := Aside0.mk H
       clear H
       have p254 : 0 ≤ (x8_1 : Int) := of_decide_eq_true (by first | (with_reducible assumption) | assumption)
       have q254 : x8_1 < (l0.length : Int) := of_decide_eq_true (by first | (with_reducible assumption) | assumption)
       obtain ⟨ad254, e254, hx254_0⟩ := Kd.at_string HR0.out x8_1 p254 q254
       cases e254
       replace hx254_0 := (HB.out.cell (World.block_lt_of_cell? w _ hx254_0)).trans hx254_0
       replace p254 := eq_true p254
       replace q254 := eq_true q254
       go_wp2_with (first | ((with_reducible refine gate_callee (f := 40) rfl ?_); refine goesL_ (some 13) rfl rfl Tryz.func40 (by kernel_rfl) rfl #[.string (rdOf ByteArray.empty l0 x8_1)] rfl (by (try simp only [List.map_toArray, List.map_cons, List.map_nil]); first | done | rfl | (simp only [List.length_drop, List.length_take]; rfl)) ?_; (with_reducible refine (name_Check.calls (rdOf ByteArray.empty l0 x8_1) t255 _ A5.out).mono ?_); rintro e w7 ⟨rfl, hb⟩; refine ⟨_, rfl, ?_⟩; have n0_ := Aside0.mk (below_step (by repeat (first | (with_reducible first | exact HB.out | apply below_alloc | apply pw_below_drewN | apply below_drew1) | exact HB.out)) hb); clear HB; have HB := n0_; clear n0_; (try clear hb); (try clear hb2); (try clear hk); (try clear hi)))
       go_roundg k1
       case measure => have := HK1.out; omega
       case rel => exact ⟨(wrap64 (x8_1 + 1)), (by first | rfl | (simp; done) | (simp [*]; done)), H', ⟨by have := HK1.out; omega⟩, ⟨by repeat (first | (with_reducible first | exact HB.out | apply below_alloc | apply pw_below_drewN | apply below_drew1) | exact HB.out)⟩⟩
      ·rw [if_neg c6] at H
       have c6b0 : (t255 == 0) = false := beq_eq_false_iff_ne.mpr c6
       have c6b1 : (t255 != 0) = true := bne_iff_ne.mpr c6
       obtain rfl := Option.some.inj H
       have p254 : 0 ≤ (x8_1 : Int) := of_decide_eq_true (by first | (with_reducible assumption) | assumption)
       have q254 : x8_1 < (l0.length : Int) := of_decide_eq_true (by first | (with_reducible assumption) | assumption)
       obtain ⟨ad254, e254, hx254_0⟩ := Kd.at_string HR0.out x8_1 p254 q254
       cases e254
       replace hx254_0 := (HB.out.cell (World.block_lt_of_cell? w _ hx254_0)).trans hx254_0
       replace p254 := eq_true p254
       replace q254 := eq_true q254
       go_wp2_with (first | ((with_reducible refine gate_callee (f := 40) rfl ?_); refine goesL_ (some 13) rfl rfl Tryz.func40 (by kernel_rfl) rfl #[.string (rdOf ByteArray.empty l0 x8_1)] rfl (by (try simp only [List.map_toArray, List.map_cons, List.map_nil]); first | done | rfl | (simp only [List.length_drop, List.length_take]; rfl)) ?_; (with_reducible refine (name_Check.calls (rdOf ByteArray.empty l0 x8_1) t255 _ A5.out).mono ?_); rintro e w8 ⟨rfl, hb⟩; refine ⟨_, rfl, ?_⟩; have n0_ := Aside0.mk (below_step (by repeat (first | (with_reducible first | exact HB.out | apply below_alloc | apply pw_below_drewN | apply below_drew1) | exact HB.out)) hb); clear HB; have HB := n0_; clear n0_; (try clear hb); (try clear hb2); (try clear hk); (try clear hi)))
       go_ret
       exact ⟨by first | rfl | (simp [errW_none, errW_some] <;> rfl) | (simp [*, errW_none, errW_some] <;> rfl), by repeat (first | (with_reducible first | exact HB.out | apply below_alloc | apply pw_below_drewN | apply below_drew1) | exact HB.out)⟩
     ·rw [if_neg c4] at H
      exact absurd H (by simp)
    ·rw [if_neg c3] at H
     exact absurd H (by simp)
   ·rw [if_neg c2] at H
    have c2b0 : decide (x8_1 < (l0.length : Int)) = false := decide_eq_false c2
    clear c2
    obtain rfl := Option.some.inj H
    go_wp2
    go_ret
    exact ⟨by first | rfl | (simp [errW_none, errW_some] <;> rfl) | (simp [*, errW_none, errW_some] <;> rfl), by repeat (first | (with_reducible first | exact HB.out | apply below_alloc | apply pw_below_drewN | apply below_drew1) | exact HB.out)⟩
def name_listed.f (k : Nat) (l0 : List ByteArray) : Option (Int) := if (l0.length : Int) > 6 then (some 6) else ((name_checked.f k l0).bind fun t256 => (some t256))
set_option maxHeartbeats 8000000 in
set_option maxRecDepth 100000 in
theorem name_listed.calls (k : Nat) (A0 : Option Addr) (c0 : Nat) (l0 : List ByteArray) (r : Int) (w : World) (hr0 : Kd.C Kd.string w A0 l0.length l0) (hc0 : l0.length ≤ c0) (h : name_listed.f k l0 = some r) :
  Calls Tryz.prog 27 #[.slice A0 l0.length c0] w fun e w' => e = .returned (.int .i64 r) ∧ Below w.heap.size w w' := by
 have HR0 := Aside0.mk hr0
 have HC0 := Aside0.mk hc0
 clear hr0 hc0
 have HB := Aside0.mk (Below.refl w.heap.size w)
 have H : (if (l0.length : Int) > 6 then (some 6) else ((name_checked.f k l0).bind fun t256 => (some t256))) = some r := h
 clear h
 by_cases c2 : (l0.length : Int) > 6
 ·rw [if_pos c2] at H
  have c2b0 : decide (6 < (l0.length : Int)) = true := decide_eq_true c2
  have c2b1 : decide (6 < l0.length) = true := decide_eq_true (by omega)
  clear c2
  obtain rfl := Option.some.inj H
  go_enter Tryz.func27, Tryz.ntmps27
  go_wp2
  go_ret
  exact ⟨by first | rfl | (simp [errW_none, errW_some] <;> rfl) | (simp [*, errW_none, errW_some] <;> rfl), by repeat (first | (with_reducible first | exact HB.out | apply below_alloc | apply pw_below_drewN | apply below_drew1) | exact HB.out)⟩
 ·rw [if_neg c2] at H
  have c2b0 : decide (6 < (l0.length : Int)) = false := decide_eq_false c2
  have c2b1 : decide (6 < l0.length) = false := decide_eq_false (by omega)
  clear c2
  replace H := Option.bind_eq_some_iff.mp H
  obtain ⟨t256, A30, H⟩ := H
  try dsimp only at H
  have A3 := Aside0.mk A30
  clear A30
  obtain rfl := Option.some.inj H
  go_enter Tryz.func27, Tryz.ntmps27
  go_wp2_with (first | ((with_reducible refine gate_callee (f := 49) rfl ?_); refine goesL_ (some 7) rfl rfl Tryz.func49 (by kernel_rfl) rfl #[.slice A0 l0.length c0] rfl (by (try simp only [List.map_toArray, List.map_cons, List.map_nil]); first | done | rfl | (simp only [List.length_drop, List.length_take]; rfl)) ?_; (with_reducible refine (name_checked.calls k _ _ l0 t256 _ ?side1 ?side2 A3.out).mono ?_); (case side1 => repeat (first | exact HR0.out | (with_reducible refine Kd.C_alloc ?_ _) | (with_reducible refine Kd.C_drewN ?_ _) | (with_reducible refine Kd.C_drew ?_))); (case side2 => exact HC0.out); rintro e w4 ⟨rfl, hb⟩; refine ⟨_, rfl, ?_⟩; have n0_ := Aside0.mk (below_step (by repeat (first | (with_reducible first | exact HB.out | apply below_alloc | apply pw_below_drewN | apply below_drew1) | exact HB.out)) hb); clear HB; have HB := n0_; clear n0_; (try clear hb); (try clear hb2); (try clear hk); (try clear hi)))
  go_ret
  exact ⟨by first | rfl | (simp [errW_none, errW_some] <;> rfl) | (simp [*, errW_none, errW_some] <;> rfl), by repeat (first | (with_reducible first | exact HB.out | apply below_alloc | apply pw_below_drewN | apply below_drew1) | exact HB.out)⟩
end Go.Proofs.YteoknahabkoknaaGreatDoor.P
namespace Go.Proofs.YteoknahabkoknaaGreatDoor.P
open Go.RowKit Go.Proofs.YteoknahabkoknaaGreatDoorW.PrintWords Go.Proofs.YteoknahabkoknaaGreatDoorW.PrintLast
set_option linter.unusedVariables false
set_option linter.unusedSimpArgs false
/- name.Sort at lists of one to six names. -/
set_option maxHeartbeats 4000000 in
set_option maxRecDepth 100000 in
theorem stable_calls (B gb g n cap : Nat) (A0 : Option Addr) (c0 : Nat) (l0 : List ByteArray) (d r : List Int) (w : World) (hbox : w.heap[gb]? = some (.cells #[.slice A0 l0.length c0] 25 (0, 0))) (hne : gb ≠ g) (hBg : B ≤ g) (hBw : B ≤ w.heap.size) (hr0 : ∀ w', Below B w w' → Kd.C Kd.string w' A0 l0.length l0) (hc0 : l0.length ≤ c0)
  (hd : Kd.R (Kd.int .i64) 3 w B (fun _ => True) (.slice (some ⟨g, 0, none⟩) n cap) d) (hn1 : 1 ≤ n) (hn : n < 20) (hin : InL l0 d) (h : outerF l0 (n - 1) d 1 = some r) :
  Calls Tryz.prog 58 #[.slice (some ⟨g, 0, none⟩) n cap, .int .i64 n, .func (.func 39) #[] #[.pointer (some ⟨gb, 0, none⟩)]] w fun e w' => e = .returned (.tuple #[]) ∧ Kd.R (Kd.int .i64) 3 w' B (fun _ => True) (.slice (some ⟨g, 0, none⟩) n cap) r ∧ w.grownBy w' (some g) := by
 have HINS := Aside0.mk (ins_calls B gb g n cap A0 c0 l0 d r w hbox hne hBg hBw hr0 hc0 hd hn1 (by omega) hin h)
 have e1 : ¬ (20 : Int) ≤ (n : Int) := by omega
 have e2 : ¬ (20 : Int) < (n : Int) := by omega
 clear hbox hne hBg hBw hr0 hc0 hd hin h
 go_enter Tryz.func58, Tryz.ntmps58
 go_wp2
 refine wp_loop_rounds 1 ?_
 rw [rounds_succ]
 go_wp2_with (go_at_call 69; refine HINS.out.mono ?_; rintro e w2 ⟨rfl, hR, hG⟩)
 have HR := Aside0.mk hR
 have HG := Aside0.mk hG
 clear hR hG HINS
 refine wp_loop_rounds 1 ?_
 rw [rounds_succ]
 go_wp2
 exact ⟨rfl, .tuple #[], results_none rfl _ _, rfl, HR.out, HG.out⟩
set_option maxHeartbeats 4000000 in
set_option maxRecDepth 100000 in
theorem sortstable_calls (B gb g n cap : Nat) (A0 : Option Addr) (c0 : Nat) (l0 : List ByteArray) (d r : List Int) (w : World) (hbox : w.heap[gb]? = some (.cells #[.slice A0 l0.length c0] 25 (0, 0))) (hne : gb ≠ g) (hBg : B ≤ g) (hBw : B ≤ w.heap.size) (hr0 : ∀ w', Below B w w' → Kd.C Kd.string w' A0 l0.length l0) (hc0 : l0.length ≤ c0)
  (hd : Kd.R (Kd.int .i64) 3 w B (fun _ => True) (.slice (some ⟨g, 0, none⟩) n cap) d) (hn1 : 1 ≤ n) (hn : n < 20) (hin : InL l0 d) (h : outerF l0 (n - 1) d 1 = some r) :
  Calls Tryz.prog 38 #[.slice (some ⟨g, 0, none⟩) n cap, .func (.func 39) #[] #[.pointer (some ⟨gb, 0, none⟩)]] w fun e w' => e = .returned (.tuple #[]) ∧ Kd.R (Kd.int .i64) 3 w' B (fun _ => True) (.slice (some ⟨g, 0, none⟩) n cap) r ∧ w.grownBy w' (some g) := by
 have HST := Aside0.mk (stable_calls B gb g n cap A0 c0 l0 d r w hbox hne hBg hBw hr0 hc0 hd hn1 hn hin h)
 clear hbox hne hBg hBw hr0 hc0 hd hin h
 go_enter Tryz.func38, Tryz.ntmps38
 go_wp2_with (go_at_call 58; refine HST.out.mono ?_; rintro e w2 ⟨rfl, hR, hG⟩)
 exact ⟨rfl, .tuple #[], results_none rfl _ _, rfl, hR, hG⟩
theorem below_weak {B : Nat} {w W : World} (h : Below (B + 1) w W) : Below B w W := ⟨h.os, h.tape, h.output, h.size, fun i hi => h.block i (by omega)⟩
def upTo (n : Nat) : List Int := (List.range n).map Int.ofNat
theorem upTo_succ (n : Nat) : upTo (n + 1) = upTo n ++ [(n : Int)] := by simp [upTo, List.range_succ]
theorem upTo_length (n : Nat) : (upTo n).length = n := by simp [upTo]
theorem upTo_inL (l : List ByteArray) : InL l (upTo l.length) := by
 intro x hx
 simp only [upTo, List.mem_map, List.mem_range] at hx
 obtain ⟨a, ha, rfl⟩ := hx
 exact ⟨Int.natCast_nonneg _, by show (a : Int) < _; omega⟩
def name_Sort.f (l0 : List ByteArray) : Option (List Int × Int) := (name_listed.f 40 l0).bind fun e => if e = 0 then (if 1 ≤ l0.length ∧ l0.length < 20 then (outerF l0 (l0.length - 1) (upTo l0.length) 1).map (fun d => (d, 0)) else none) else some ([], e)
set_option maxHeartbeats 4000000 in
set_option maxRecDepth 100000 in
theorem name_Sort.calls (A0 : Option Addr) (c0 : Nat) (l0 : List ByteArray) (r1 : List Int) (r2 : Int) (w : World) (hr0 : Kd.C Kd.string w A0 l0.length l0) (hc0 : l0.length ≤ c0) (h : name_Sort.f l0 = some (r1, r2)) :
  Calls Tryz.prog 18 #[.slice A0 l0.length c0] w fun e w' => ∃ v0_ : Value, e = .returned (.tuple #[v0_, .int .i64 r2]) ∧ Kd.R (Kd.int .i64) 3 w' w.heap.size (fun _ => True) v0_ r1 ∧ Below w.heap.size w w' := by
 unfold name_Sort.f at h
 obtain ⟨er, he, h⟩ := Option.bind_eq_some_iff.1 h
 have HE := Aside0.mk he
 have HR := Aside0.mk hr0
 have HC0 := Aside0.mk hc0
 clear he hr0 hc0
 have hB0 : Below w.heap.size w (w.alloc (.cells #[.slice A0 l0.length c0] 25)) := (Below.refl _ _).alloc (Nat.le_refl _) _
 have hlist := Aside0.mk (name_listed.calls 40 A0 c0 l0 er _ (Kd.C_below HR.out hB0) HC0.out HE.out)
 by_cases e0 : er = 0
 ·rw [if_pos e0] at h
  split at h
  case isFalse => cases h
  rename_i hlen
  obtain ⟨d, hd, hpair⟩ := Option.map_eq_some_iff.1 h
  simp only [Prod.mk.injEq] at hpair
  obtain ⟨rfl, rfl⟩ := hpair
  subst e0
  have HD := Aside0.mk hd
  have HL := Aside0.mk hlen
  clear h hd hlen
  go_enter Tryz.func18, Tryz.ntmps18
  go_wp2_with (go_at_call 27; refine hlist.out.mono ?_; rintro e w2 ⟨rfl, hb⟩; have hbx : w2.heap[w.heap.size]? = some (.cells #[.slice A0 l0.length c0] 25 (0, 0)) := (hb.block _ (by simp)).trans (heap_alloc_new w _); have hbc : w2.cell? ⟨w.heap.size, 0, none⟩ = some (.slice A0 l0.length c0) := (blk_cell hbx 0).trans rfl)
  have hC1 := Kd.C_below HR.out hB0
  have hsz : (w.alloc (.cells #[.slice A0 l0.length c0] 25)).heap.size = w.heap.size + 1 := by simp
  rw [hsz] at hb
  have hbx0 : (w.alloc (.cells #[.slice A0 l0.length c0] 25)).heap[w.heap.size]? = some (.cells #[.slice A0 l0.length c0] 25 (0, 0)) := heap_alloc_new w _
  clear hbc hlist hbx
  generalize w.alloc (.cells #[.slice A0 l0.length c0] 25) = wb at *
  have HB2 := Aside0.mk hb
  have HB0 := Aside0.mk hB0
  have HC1 := Aside0.mk hC1
  have HSZ := Aside0.mk hsz
  have HBX := Aside0.mk hbx0
  clear hb hB0 hC1 hbx0 hsz
  have l20 := HL.out.2
  go_loopw [5, 14] (fun v1 v wr => ∃ (i : Nat), v = .int .i64 i ∧ i ≤ l0.length ∧ Aside0 (Kd.R (Kd.int .i64) 3 wr (w.heap.size + 1) (fun _ => True) v1 (upTo i)) ∧ Aside0 (Below (w.heap.size + 1) wb wr)) (fun _ v _ => l0.length - (intOf v).toNat)
  case atStart => exact ⟨0, rfl, Nat.zero_le _, ⟨Kd.R_nil _ _ _ _ _⟩, HB2⟩
  case round =>
   obtain ⟨i, rfl, hi, hR, hB⟩ := hrel
   have hws : w.heap.size + 1 ≤ wr.heap.size := by have := hB.out.size; have := HSZ.out; omega
   by_cases hlt : i < l0.length
   ·have hwi : wrap64 ((i : Int) + 1) = (i : Int) + 1 := by unfold wrap64; omega
    go_wp2_with (at_builtin; refine Kd.R_append (Kd.int .i64) (w0 := wb) (w.heap.size + 1) rfl (.tmp 17) (.tmp 19) 22 3 (.int .i64 0) 8 rfl Tryz.underlying22 info3 rfl (by decide) (by omega) _ (upTo i) (i : Int) [.int .i64 i] (fun _ => True) (fun _ => False) rfl rfl ?aP (fun _ hk => hk.elim) (fun _ _ => trivial) hR.out hB.out hws ?aL ?_; (case aP => exact rfl); (case aL => rw [upTo_length]; omega); intro v2 w3 hR3 hB3 hg3 hat3)
    rw [← upTo_succ] at hR3
    have HR3 := Aside0.mk hR3
    have HB3 := Aside0.mk hB3
    clear hR3 hB3 hg3 hat3
    go_roundw
    case rel => exact ⟨i + 1, by simp, by omega, HR3, HB3⟩
    case measure => simp [intOf]; omega
   ·have hie : i = l0.length := by omega
    subst hie
    obtain ⟨g, cap, hv, hg⟩ := Kd.R_form hR.out (by rw [upTo_length]; exact HL.out.1)
    rw [upTo_length] at hv
    subst hv
    have hbg := Kd.R_base hR.out g (by simp [Value.ownBlock])
    have hbx : wr.heap[w.heap.size]? = some (.cells #[.slice A0 l0.length c0] 25 (0, 0)) := (hB.out.block _ (by omega)).trans HBX.out
    have hcall := Aside0.mk (sortstable_calls (w.heap.size + 1) w.heap.size g l0.length cap A0 c0 l0 (upTo l0.length) d wr hbx (by omega) hbg hws (fun w' hw' => Kd.C_below HC1.out (by rw [HSZ.out]; exact hB.out.trans hw')) HC0.out hR.out HL.out.1 HL.out.2 (upTo_inL l0) HD.out)
    clear hbx
    go_wp2_with (go_at_call 38; refine hcall.out.mono ?_; rintro e w3 ⟨rfl, hR3, hG3⟩)
    go_ret2
    exact ⟨_, rfl, Kd.R_lower hR3 (Nat.le_succ _), HB0.out.trans (below_weak (hB.out.grown hG3 hws (fun j hj => by cases hj; exact hbg)))⟩
 ·rw [if_neg e0] at h
  simp only [Option.some.injEq, Prod.mk.injEq] at h
  obtain ⟨rfl, rfl⟩ := h
  have e1 : (er != 0) = true := bne_iff_ne.mpr e0
  clear e0
  go_enter Tryz.func18, Tryz.ntmps18
  go_wp2_with (go_at_call 27; refine hlist.out.mono ?_; rintro e w2 ⟨rfl, hb⟩)
  go_ret2
  exact ⟨_, rfl, Kd.R_nil _ _ _ _ _, below_then hB0 (by simp) hb⟩
end Go.Proofs.YteoknahabkoknaaGreatDoor.P
