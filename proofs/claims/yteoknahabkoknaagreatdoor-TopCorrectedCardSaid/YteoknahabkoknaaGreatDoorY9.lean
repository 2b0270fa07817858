/- Parts of the proof of topCorrected_card: the texts P17, MFirst, MRight, MWrong of the session's own drivers and templates, laid together by a program of the session's own; what the theorem does not come to is left out. -/
import Derived.Carry
import Derived.Laws.EntriesVeiled
import Derived.LoopIn
import Derived.LoopNIn
import Derived.Maps.AppendAt
import Derived.Outline
import Derived.OwnWalkIn
import Derived.RangeFuncBound
import Derived.RangeFuncBox
import Derived.RangeFuncCalls
import Derived.RangeFuncLeaves
import Derived.RangeFuncNested
import Derived.Shelf.Abstract
import Derived.Shelf.RegionOpen
import Derived.TacticsInMore
import Derived.Test.YteoknahabkoknaaGreatDoorY1
import Derived.Test.YteoknahabkoknaaGreatDoorY6
import Derived.Test.YteoknahabkoknaaGreatDoorY8
import Derived.WalkKit
namespace Go.Proofs.YteoknahabkoknaaGreatDoor.P
open Go.RowKit Go.Proofs.YteoknahabkoknaaGreatDoorW.PrintWords Go.Proofs.YteoknahabkoknaaGreatDoorW.PrintLast Go.Proofs.YteoknahabkoknaaGreatDoorW.PrintMore
attribute [local go_sem] max2_int min2_int max_two min_two max_three min_three max_four min_four   -- for this text's walks alone
set_option linter.unusedVariables false
set_option linter.unusedSimpArgs false
def slices_Compare_int_int.l0 : Nat → List Int → List Int → List Int → Int → Int → Option (Int)
 | 0, _, _, _, _, _ => none
 | k + 1, x0, x1, x9, x10, x11 => if x11 < x10 then (if 0 ≤ x11 then (if x11 < (x9.length : Int) then (if x11 ≥ (x1.length : Int) then (some 1) else (if x11 < (x1.length : Int) then ((cmp_Compare_int.f (rd x9 x11) (rd x1 x11)).bind fun t371 => (if t371 = 0 then (slices_Compare_int_int.l0 k x0 x1 x9 x10 (wrap64 (x11 + 1))) else (some t371))) else (none))) else (none)) else (none)) else (if (x0.length : Int) < (x1.length : Int) then (some (-1)) else (some 0))
def slices_Compare_int_int.f (k : Nat) (l0 : List Int) (l1 : List Int) : Option (Int) := slices_Compare_int_int.l0 k l0 l1 l0 (l0.length : Int) 0
set_option maxHeartbeats 8000000 in
set_option maxRecDepth 100000 in
theorem slices_Compare_int_int.calls (k : Nat) (A0 : Option Addr) (c0 : Nat) (l0 : List Int) (A1 : Option Addr) (c1 : Nat) (l1 : List Int) (r : Int) (w : World) (hr0 : Kd.C (Kd.int .i64) w A0 l0.length l0) (hc0 : l0.length ≤ c0) (hr1 : Kd.C (Kd.int .i64) w A1 l1.length l1) (hc1 : l1.length ≤ c1) (h : slices_Compare_int_int.f k l0 l1 = some r) :
  Calls Tryz.prog 55 #[.slice A0 l0.length c0, .slice A1 l1.length c1] w fun e w' => e = .returned (.int .i64 r) ∧ Drawn0 w w' := by
 have HR0 := Aside0.mk hr0
 have HC0 := Aside0.mk hc0
 clear hr0 hc0
 have HR1 := Aside0.mk hr1
 have HC1 := Aside0.mk hc1
 clear hr1 hc1
 have H : (slices_Compare_int_int.l0 k l0 l1 l0 (l0.length : Int) 0) = some r := h
 clear h
 have H' := Aside0.mk H
 clear H
 go_enter Tryz.func55, Tryz.ntmps55
 go_wp2
 go_loopg [11] k (fun kq v11 w' => ∃ (x11_1 : Int), v11 = .int .i64 x11_1 ∧ Aside0 (slices_Compare_int_int.l0 kq l0 l1 l0 (l0.length : Int) x11_1 = some r) ∧ Aside0 (kq ≤ k) ∧ Drawn0 w w')
 case atStart => exact ⟨(0), (by first | rfl | (simp; done) | (simp [*]; done)), H', ⟨Nat.le_refl _⟩, by repeat (first | exact Drawn0.refl _ | apply Drawn0.step)⟩
 case round =>
  clear H'
  try clear c1
  try clear p2
  obtain ⟨x11_1, rfl, HA, HK1, ⟨m1, rfl⟩⟩ := hrel
  cases gk with
  | zero => exact absurd HA.out (by simp [slices_Compare_int_int.l0])
  | succ k1 =>
   have H := HA.out
   clear HA
   simp only [slices_Compare_int_int.l0] at H
   by_cases c3 : x11_1 < (l0.length : Int)
   ·rw [if_pos c3] at H
    have c3b0 : decide (x11_1 < (l0.length : Int)) = true := decide_eq_true c3
    clear c3
    by_cases c4 : 0 ≤ x11_1
    ·rw [if_pos c4] at H
     have c4b0 : decide (0 ≤ x11_1) = true := decide_eq_true c4
     clear c4
     by_cases c5 : x11_1 < (l0.length : Int)
     ·rw [if_pos c5] at H
      have c5b0 : decide (x11_1 < (l0.length : Int)) = true := decide_eq_true c5
      clear c5
      by_cases c6 : x11_1 ≥ (l1.length : Int)
      ·rw [if_pos c6] at H
       have c6b0 : decide ((l1.length : Int) ≤ x11_1) = true := decide_eq_true c6
       clear c6
       obtain rfl := Option.some.inj H
       have p369 : 0 ≤ (x11_1 : Int) := of_decide_eq_true (by first | (with_reducible assumption) | assumption)
       have q369 : x11_1 < (l0.length : Int) := of_decide_eq_true (by first | (with_reducible assumption) | assumption)
       obtain ⟨ad369, e369, hx369_0⟩ := Kd.at_int HR0.out x11_1 p369 q369
       cases e369
       replace p369 := eq_true p369
       replace q369 := eq_true q369
       go_wp2
       go_ret
       exact ⟨by first | rfl | (simp; done) | (simp [*]; done), by repeat (first | exact Drawn0.refl _ | apply Drawn0.step)⟩
      ·rw [if_neg c6] at H
       have c6b0 : decide ((l1.length : Int) ≤ x11_1) = false := decide_eq_false c6
       clear c6
       by_cases c7 : x11_1 < (l1.length : Int)
       ·rw [if_pos c7] at H
        have c7b0 : decide (x11_1 < (l1.length : Int)) = true := decide_eq_true c7
        clear c7
        replace H := Option.bind_eq_some_iff.mp H
        obtain ⟨t371, A80, H⟩ := H
        try dsimp only at H
        have A8 := Aside0.mk A80
        clear A80
        by_cases c9 : t371 = 0
        ·rw [if_pos c9] at H
         have c9b0 : (t371 == 0) = true := beq_iff_eq.mpr c9
         have c9b1 : (t371 != 0) = false := bne_eq_false_iff_eq.mpr c9
         clear c9
         have H' := Aside0.mk H
         clear H
         have p369 : 0 ≤ (x11_1 : Int) := of_decide_eq_true (by first | (with_reducible assumption) | assumption)
         have q369 : x11_1 < (l0.length : Int) := of_decide_eq_true (by first | (with_reducible assumption) | assumption)
         obtain ⟨ad369, e369, hx369_0⟩ := Kd.at_int HR0.out x11_1 p369 q369
         cases e369
         replace p369 := eq_true p369
         replace q369 := eq_true q369
         have p370 : 0 ≤ (x11_1 : Int) := of_decide_eq_true (by first | (with_reducible assumption) | assumption)
         have q370 : x11_1 < (l1.length : Int) := of_decide_eq_true (by first | (with_reducible assumption) | assumption)
         obtain ⟨ad370, e370, hx370_0⟩ := Kd.at_int HR1.out x11_1 p370 q370
         cases e370
         replace p370 := eq_true p370
         replace q370 := eq_true q370
         go_wp2_with (first | ((with_reducible refine gate_callee (f := 54) rfl ?_); refine goesL_ (some 26) rfl rfl Tryz.func54 (by kernel_rfl) rfl #[.int .i64 (rd l0 x11_1), .int .i64 (rd l1 x11_1)] rfl (by (try simp only [List.map_toArray, List.map_cons, List.map_nil]); first | done | rfl | (simp only [List.length_drop, List.length_take]; rfl)) ?_; (with_reducible refine (cmp_Compare_int.calls (rd l0 x11_1) (rd l1 x11_1) t371 _ A8.out).mono ?_); rintro e w' ⟨rfl, ⟨nd, rfl⟩⟩; refine ⟨_, rfl, ?_⟩))
         go_roundg k1
         case measure => have := HK1.out; omega
         case rel => exact ⟨(wrap64 (x11_1 + 1)), (by first | rfl | (simp; done) | (simp [*]; done)), H', ⟨by have := HK1.out; omega⟩, by repeat (first | exact Drawn0.refl _ | apply Drawn0.step)⟩
        ·rw [if_neg c9] at H
         have c9b0 : (t371 == 0) = false := beq_eq_false_iff_ne.mpr c9
         have c9b1 : (t371 != 0) = true := bne_iff_ne.mpr c9
         obtain rfl := Option.some.inj H
         have p369 : 0 ≤ (x11_1 : Int) := of_decide_eq_true (by first | (with_reducible assumption) | assumption)
         have q369 : x11_1 < (l0.length : Int) := of_decide_eq_true (by first | (with_reducible assumption) | assumption)
         obtain ⟨ad369, e369, hx369_0⟩ := Kd.at_int HR0.out x11_1 p369 q369
         cases e369
         replace p369 := eq_true p369
         replace q369 := eq_true q369
         have p370 : 0 ≤ (x11_1 : Int) := of_decide_eq_true (by first | (with_reducible assumption) | assumption)
         have q370 : x11_1 < (l1.length : Int) := of_decide_eq_true (by first | (with_reducible assumption) | assumption)
         obtain ⟨ad370, e370, hx370_0⟩ := Kd.at_int HR1.out x11_1 p370 q370
         cases e370
         replace p370 := eq_true p370
         replace q370 := eq_true q370
         go_wp2_with (first | ((with_reducible refine gate_callee (f := 54) rfl ?_); refine goesL_ (some 26) rfl rfl Tryz.func54 (by kernel_rfl) rfl #[.int .i64 (rd l0 x11_1), .int .i64 (rd l1 x11_1)] rfl (by (try simp only [List.map_toArray, List.map_cons, List.map_nil]); first | done | rfl | (simp only [List.length_drop, List.length_take]; rfl)) ?_; (with_reducible refine (cmp_Compare_int.calls (rd l0 x11_1) (rd l1 x11_1) t371 _ A8.out).mono ?_); rintro e w' ⟨rfl, ⟨nd, rfl⟩⟩; refine ⟨_, rfl, ?_⟩))
         go_ret
         exact ⟨by first | rfl | (simp; done) | (simp [*]; done), by repeat (first | exact Drawn0.refl _ | apply Drawn0.step)⟩
       ·rw [if_neg c7] at H
        exact absurd H (by simp)
     ·rw [if_neg c5] at H
      exact absurd H (by simp)
    ·rw [if_neg c4] at H
     exact absurd H (by simp)
   ·rw [if_neg c3] at H
    have c3b0 : decide (x11_1 < (l0.length : Int)) = false := decide_eq_false c3
    clear c3
    by_cases c10 : (l0.length : Int) < (l1.length : Int)
    ·rw [if_pos c10] at H
     have c10b0 : decide ((l0.length : Int) < (l1.length : Int)) = true := decide_eq_true c10
     have c10b1 : decide (l0.length < l1.length) = true := decide_eq_true (Int.ofNat_lt.mp c10)
     clear c10
     obtain rfl := Option.some.inj H
     go_wp2
     go_ret
     exact ⟨by first | rfl | (simp; done) | (simp [*]; done), by repeat (first | exact Drawn0.refl _ | apply Drawn0.step)⟩
    ·rw [if_neg c10] at H
     have c10b0 : decide ((l0.length : Int) < (l1.length : Int)) = false := decide_eq_false c10
     have c10b1 : decide (l0.length < l1.length) = false := decide_eq_false (fun h => c10 (Int.ofNat_lt.mpr h))
     clear c10
     obtain rfl := Option.some.inj H
     go_wp2
     go_ret
     exact ⟨by first | rfl | (simp; done) | (simp [*]; done), by repeat (first | exact Drawn0.refl _ | apply Drawn0.step)⟩
def name_shorter.f (k : Nat) (l0 : List Int) (l1 : List Int) : Option (Int) := (cmp_Compare_int.f (l0.length : Int) (l1.length : Int)).bind fun t372 => ((slices_Compare_int_int.f k l0 l1).bind fun t373 => ((cmp_Or_int.f k (([t372, t373] : List Int))).bind fun t377 => (some t377)))
set_option maxHeartbeats 8000000 in
set_option maxRecDepth 100000 in
theorem name_shorter.calls (k : Nat) (A0 : Option Addr) (c0 : Nat) (l0 : List Int) (A1 : Option Addr) (c1 : Nat) (l1 : List Int) (r : Int) (w : World) (hr0 : Kd.C (Kd.int .i64) w A0 l0.length l0) (hc0 : l0.length ≤ c0) (hr1 : Kd.C (Kd.int .i64) w A1 l1.length l1) (hc1 : l1.length ≤ c1) (h : name_shorter.f k l0 l1 = some r) :
  Calls Tryz.prog 32 #[.slice A0 l0.length c0, .slice A1 l1.length c1] w fun e w' => e = .returned (.int .i64 r) ∧ Below w.heap.size w w' := by
 have HR0 := Aside0.mk hr0
 have HC0 := Aside0.mk hc0
 clear hr0 hc0
 have HR1 := Aside0.mk hr1
 have HC1 := Aside0.mk hc1
 clear hr1 hc1
 have HB := Aside0.mk (Below.refl w.heap.size w)
 have H : ((cmp_Compare_int.f (l0.length : Int) (l1.length : Int)).bind fun t372 => ((slices_Compare_int_int.f k l0 l1).bind fun t373 => ((cmp_Or_int.f k (([t372, t373] : List Int))).bind fun t377 => (some t377)))) = some r := h
 clear h
 replace H := Option.bind_eq_some_iff.mp H
 obtain ⟨t372, A30, H⟩ := H
 try dsimp only at H
 have A3 := Aside0.mk A30
 clear A30
 replace H := Option.bind_eq_some_iff.mp H
 obtain ⟨t373, A40, H⟩ := H
 try dsimp only at H
 have A4 := Aside0.mk A40
 clear A40
 obtain ⟨y374, hy374⟩ : ∃ y_ : List Int, y_ = (([t372, t373] : List Int)) := ⟨_, rfl⟩
 replace H : ((cmp_Or_int.f k y374).bind fun t377 => (some t377)) = some r := by first | (rw [hy374]; with_reducible exact H) | (have H2_ := (Option.bind_some _ _).symm.trans H; rw [hy374]; with_reducible exact H2_) | (have H2_ := (Option.bind_some _ _).symm.trans H; with_reducible exact H2_) | with_reducible exact H | (rw [hy374]; exact H) | exact H
 have Ny374 := Aside0.mk hy374
 clear hy374
 replace H := Option.bind_eq_some_iff.mp H
 obtain ⟨t377, A50, H⟩ := H
 try dsimp only at H
 have A5 := Aside0.mk A50
 clear A50
 obtain rfl := Option.some.inj H
 go_enter Tryz.func32, Tryz.ntmps32
 go_wp2_with (first | ((with_reducible refine gate_callee (f := 54) rfl ?_); refine goesL_ (some 9) rfl rfl Tryz.func54 (by kernel_rfl) rfl #[.int .i64 (l0.length : Int), .int .i64 (l1.length : Int)] rfl (by (try simp only [List.map_toArray, List.map_cons, List.map_nil]); first | done | rfl | (simp only [List.length_drop, List.length_take]; rfl)) ?_; (with_reducible refine (cmp_Compare_int.calls (l0.length : Int) (l1.length : Int) t372 _ A3.out).mono ?_); rintro e w' ⟨rfl, ⟨nd, rfl⟩⟩; refine ⟨_, rfl, ?_⟩) | ((with_reducible refine gate_callee (f := 55) rfl ?_); refine goesL_ (some 12) rfl rfl Tryz.func55 (by kernel_rfl) rfl #[.slice A0 l0.length c0, .slice A1 l1.length c1] rfl (by (try simp only [List.map_toArray, List.map_cons, List.map_nil]); first | done | rfl | (simp only [List.length_drop, List.length_take]; rfl)) ?_; (with_reducible refine (slices_Compare_int_int.calls k _ _ l0 _ _ l1 t373 _ ?side1 ?side2 ?side3 ?side4 A4.out).mono ?_); (case side1 => repeat (first | exact HR0.out | (with_reducible refine Kd.C_alloc ?_ _) | (with_reducible refine Kd.C_drewN ?_ _) | (with_reducible refine Kd.C_drew ?_))); (case side2 => exact HC0.out); (case side3 => repeat (first | exact HR1.out | (with_reducible refine Kd.C_alloc ?_ _) | (with_reducible refine Kd.C_drewN ?_ _) | (with_reducible refine Kd.C_drew ?_))); (case side4 => exact HC1.out); rintro e w' ⟨rfl, ⟨nd, rfl⟩⟩; refine ⟨_, rfl, ?_⟩) | ((with_reducible refine gate_dst (N := 13) rfl ?_); refine Kd.R_lit (Kd.int .i64) _ 3 ?hg (N := 13) ?hd (xs := ([t372, t373] : List Int)) (inner := [.int .i64 t372, .int .i64 t373]) (ok := fun _ => True) (okp := fun _ => True) ?hr ?hp (fun _ hk => hk) trivial (Below.refl _ _) (Nat.le_refl _) (by simp) ?_; (case hd => rfl); (case hg => rfl); (case hr => first | (go_simp; done) | (go_simp; rfl)); (case hp => exact (Reps.one (show Kd.M (Kd.int .i64) _ _ _ t372 [.int .i64 t372] from rfl) (Reps.one (show Kd.M (Kd.int .i64) _ _ _ t373 [.int .i64 t373] from rfl) (Reps.none _ _)))); intro v375 w6 ho7 hb hg_ hnew_; clear hg_ hnew_; (first | rw [← Ny374.out] at ho7 | (simp only [Int.reduceToNat] at ho7; rw [← Ny374.out] at ho7)); have n0_ := Aside0.mk (Kd.R_lower ho7 (below_size (by repeat (first | (with_reducible first | exact HB.out | apply below_alloc | apply pw_below_drewN | apply below_drew1) | exact HB.out)))); have n1_ := Aside0.mk (below_step (by repeat (first | (with_reducible first | exact HB.out | apply below_alloc | apply pw_below_drewN | apply below_drew1) | exact HB.out)) hb); clear HB; have HO376 := n0_; have HB := n1_; clear n0_ n1_; clear hb ho7; obtain ⟨Ao8, co8, eo8⟩ := Kd.R_slice HO376.out; subst eo8) | ((with_reducible refine gate_callee (f := 52) rfl ?_); refine goesL_ (some 14) rfl rfl Tryz.func52 (by kernel_rfl) rfl #[.slice Ao8 y374.length co8] rfl (by (try simp only [List.map_toArray, List.map_cons, List.map_nil]); first | done | rfl | (simp only [List.length_drop, List.length_take]; rfl)) ?_; (with_reducible refine (cmp_Or_int.calls k _ _ y374 t377 _ ?side1 ?side2 A5.out).mono ?_); (case side1 => repeat (first | exact (Kd.R_reads' HO376.out).2.2 | (with_reducible refine Kd.C_alloc ?_ _) | (with_reducible refine Kd.C_drewN ?_ _) | (with_reducible refine Kd.C_drew ?_))); (case side2 => exact (Kd.R_reads' HO376.out).2.1); rintro e w' ⟨rfl, ⟨nd, rfl⟩⟩; refine ⟨_, rfl, ?_⟩))
 go_ret
 exact ⟨by first | rfl | (simp [errW_none, errW_some] <;> rfl) | (simp [*, errW_none, errW_some] <;> rfl), by repeat (first | (with_reducible first | exact HB.out | apply below_alloc | apply pw_below_drewN | apply below_drew1) | exact HB.out)⟩
end Go.Proofs.YteoknahabkoknaaGreatDoor.P
namespace Go.Proofs.YteoknahabkoknaaGreatDoor.P
open Go.RowKit Go.Shelf Go.Proofs.YteoknahabkoknaaGreatDoorW.PrintWords Go.Proofs.YteoknahabkoknaaGreatDoorW.PrintLast
set_option linter.unusedVariables false
set_option linter.unusedSimpArgs false
attribute [local go_sem] Oper.semAt_some
/- name.first over lists of numbers of which the first is empty, with name.shorter: it stays empty. -/
theorem shorter_nil (l : List Int) : ∃ r, name_shorter.f 40 l [] = some r ∧ 0 ≤ r := by
 cases l with
 | nil => exact ⟨0, by kernel_rfl, by omega⟩
 | cons x xs =>
  refine ⟨1, ?_, by omega⟩
  have h1 : (0 : Int) < ((x :: xs).length : Int) := by rw [List.length_cons]; omega
  have h2 : slices_Compare_int_int.f 40 (x :: xs) [] = some 1 := by
   unfold slices_Compare_int_int.f
   rw [slices_Compare_int_int.l0, if_pos h1, if_pos (by omega), if_pos h1, if_pos (by simp)]
  have h3 : cmp_Compare_int.f ((x :: xs).length : Int) (([] : List Int).length : Int) = some 1 := by
   have e : (([] : List Int).length : Int) = 0 := rfl
   rw [e]
   generalize ((x :: xs).length : Int) = n at h1 ⊢
   unfold cmp_Compare_int.f cmp_isNaN_int.f
   simp only [bne_self_eq_false, Option.bind_some, Bool.false_eq_true, if_false]
   rw [if_neg (by omega), if_pos (by omega)]
  have h4 : cmp_Or_int.f 40 [1, 1] = some 1 := by kernel_rfl
  unfold name_shorter.f
  rw [h2, h3, Option.bind_some, Option.bind_some, h4]
  rfl
/-- What is yielded: a slice of numbers, and the numbers. -/
def encX (x : Value × List Int) : Array Value := #[x.1]
def PxN (pre : List (Value × List Int)) (x : Value × List Int) (W : World) : Prop :=
 (pre = [] → x.1 = .slice none 0 0) ∧ ∃ A c, x.1 = .slice A x.2.length c ∧ x.2.length ≤ c ∧ Kd.C (Kd.int .i64) W A x.2.length x.2
theorem C_put {W : World} {A : Option Addr} {n : Nat} {l : List Int} {k : Nat} {o o' : Obj} (h : Kd.C (Kd.int .i64) W A n l) (hl : W.heap[k]? = some o) (ho : o.isCells = false) : Kd.C (Kd.int .i64) (W.putObj k o') A n l := by
 have h1 := Kd.reads_of_C (enc := Value.int .i64) (d := (0 : Int)) (h1 := fun _ => rfl) h
 refine Kd.C_of_reads (d := (0 : Int)) ⟨h1.1, h1.2.1, fun hn => ?_⟩
 obtain ⟨ad, e, hc⟩ := h1.2.2 hn
 exact ⟨ad, e, fun j hj => cell_kept (hc j hj) (grownBy_putObj' W k o') (fun r e => by cases e; exact ⟨o, hl, ho⟩)⟩
theorem PxN_put (pre : List (Value × List Int)) (x : Value × List Int) (W : World) (l : Nat) (o o' : Obj) (hl : W.heap[l]? = some o) (ho : o.isCells = false) (h : PxN pre x W) : PxN pre x (W.putObj l o') := by
 obtain ⟨h1, A, c, h2, h3, h4⟩ := h
 exact ⟨h1, A, c, h2, h3, C_put h4 hl ho⟩
/-- What first's own cells hold between two rounds. -/
def IFirst (B : Nat) (w : World) (pre : List (Value × List Int)) (W : World) : Prop :=
 W.heap[B]? = some (.cells #[.func (.func 32) #[] #[]] 70 (0, 0)) ∧ W.heap[B + 1]? = some (.cells #[.slice none 0 0] 22 (0, 0)) ∧ (∃ b, W.heap[B + 2]? = some (.cells #[.bool b] 4 (0, 0)) ∧ (b = false → pre = [])) ∧ Below B w W
theorem IFirst_abides (B : Nat) (w : World) (hB : B ≤ w.heap.size) : Abides (B + 3) (IFirst B w) := by
 rintro pre A C row ⟨h1, h2, ⟨b, h3, h4⟩, h5⟩ hg hr
 have kept : ∀ {k : Nat} {o : Obj}, k < B + 3 → A.heap[k]? = some o → C.heap[k]? = some o := fun hk hA =>
  (hg.block _ (Array.getElem?_eq_some_iff.1 hA).1 (fun e => by have := hr _ e.symm; omega)).trans hA
 exact ⟨kept (by omega) h1, kept (by omega) h2, ⟨b, kept (by omega) h3, h4⟩, h5.grown hg (Nat.le_trans hB h5.size) (fun k e => by have := hr k e; omega)⟩
theorem IFirst_set (B : Nat) (w W : World) (pre : List (Value × List Int)) (x : Value × List Int) (h1 : W.heap[B]? = some (.cells #[.func (.func 32) #[] #[]] 70 (0, 0))) (h2 : W.heap[B + 1]? = some (.cells #[.slice none 0 0] 22 (0, 0)))
  (h3 : W.heap[B + 2]? = some (.cells #[.bool false] 4 (0, 0))) (h5 : Below B w W) : KeepsFrom (B + 3) W ((W.setCell ⟨B + 1, 0, none⟩ (.slice none 0 0)).setCell ⟨B + 1 + 1, 0, none⟩ (.bool true)) ∧
  Below B W ((W.setCell ⟨B + 1, 0, none⟩ (.slice none 0 0)).setCell ⟨B + 1 + 1, 0, none⟩ (.bool true)) ∧ IFirst B w (pre ++ [x]) ((W.setCell ⟨B + 1, 0, none⟩ (.slice none 0 0)).setCell ⟨B + 1 + 1, 0, none⟩ (.bool true)) := by
 have hb : Below B W ((W.setCell ⟨B + 1, 0, none⟩ (.slice none 0 0)).setCell ⟨B + 1 + 1, 0, none⟩ (.bool true)) := ((Below.refl B W).setCell (p := ⟨B + 1, 0, none⟩) (by show B ≤ B + 1; omega) _).setCell (p := ⟨B + 1 + 1, 0, none⟩) (by show B ≤ B + 1 + 1; omega) _
 refine ⟨((KeepsOthers.setCell _ _ _).trans (KeepsOthers.setCell _ _ _)).from _, hb, ?_, ?_, ⟨true, ?_, fun h => by cases h⟩, h5.trans hb⟩
 ·rw [Below.heap_setCell _ ⟨B + 1 + 1, 0, none⟩ _ B (by show B ≠ B + 1 + 1; omega), Below.heap_setCell _ ⟨B + 1, 0, none⟩ _ B (by show B ≠ B + 1; omega)]
  exact h1
 ·rw [Below.heap_setCell _ ⟨B + 1 + 1, 0, none⟩ _ (B + 1) (by show B + 1 ≠ B + 1 + 1; omega)]
  exact blk_put h2 0 (.slice none 0 0) rfl
 ·have h3' : (W.setCell ⟨B + 1, 0, none⟩ (.slice none 0 0)).heap[B + 1 + 1]? = some (.cells #[.bool false] 4 (0, 0)) := (Below.heap_setCell _ ⟨B + 1, 0, none⟩ _ (B + 1 + 1) (by show B + 1 + 1 ≠ B + 1; omega)).trans h3
  exact blk_put h3' 0 (.bool true) rfl
theorem IFirst_call (B : Nat) (w W w' : World) (pre : List (Value × List Int)) (x : Value × List Int) (h1 : W.heap[B]? = some (.cells #[.func (.func 32) #[] #[]] 70 (0, 0))) (h2 : W.heap[B + 1]? = some (.cells #[.slice none 0 0] 22 (0, 0)))
  (h3 : W.heap[B + 2]? = some (.cells #[.bool true] 4 (0, 0))) (h5 : Below B w W) (hb : Below W.heap.size W w') : KeepsFrom (B + 3) W w' ∧ Below B W w' ∧ IFirst B w (pre ++ [x]) w' := by
 have hlt := blk_lt h1
 have hb2 : Below B W w' := hb.mono (Nat.le_of_lt hlt)
 exact ⟨⟨hb.size, fun k o _ hk _ => (hb.block k (Array.getElem?_eq_some_iff.1 hk).1).trans hk⟩, hb2, blk_below h1 hb, blk_below h2 hb, ⟨true, blk_below h3 hb, fun h => by cases h⟩, h5.trans hb2⟩
theorem first_start (w : World) (B : Nat) (hB : w.heap.size = B) : ∃ W0, ((w.alloc (.cells #[.func (.func 32) #[] #[]] 70)).alloc (.cells #[.slice none 0 0] 22)).alloc (.cells #[.bool false] 4) = W0 ∧
  W0.heap[B]? = some (.cells #[.func (.func 32) #[] #[]] 70 (0, 0)) ∧ W0.heap[B + 1]? = some (.cells #[.slice none 0 0] 22 (0, 0)) ∧ W0.heap[B + 2]? = some (.cells #[.bool false] 4 (0, 0)) ∧ Below B w W0 ∧ W0.heap.size = B + 3 := by
 subst hB
 refine ⟨_, rfl, ?_, ?_, ?_, ((((Below.refl _ w).alloc (Nat.le_refl _) _).alloc (by simp) _).alloc (by simp; omega) _), by simp⟩
 ·exact blk_alloc (blk_alloc (blk_new w _) _) _
 ·have := blk_new (w.alloc (.cells #[.func (.func 32) #[] #[]] 70)) (.cells #[.slice none 0 0] 22)
  rw [World.size_alloc] at this
  exact blk_alloc this _
 ·have := blk_new ((w.alloc (.cells #[.func (.func 32) #[] #[]] 70)).alloc (.cells #[.slice none 0 0] 22)) (.cells #[.bool false] 4)
  rw [World.size_alloc, World.size_alloc] at this
  exact this
set_option maxHeartbeats 4000000 in
set_option maxRecDepth 100000 in
theorem first_calls (bl : Nat) (w : World) (hseq : ∀ W, Below w.heap.size w W → Yields Fence.wide 4 Tryz.prog 28 #[.pointer (some ⟨bl, 0, none⟩)] encX PxN w.heap.size W) :
  Calls Tryz.prog 31 #[.func (.func 28) #[] #[.pointer (some ⟨bl, 0, none⟩)], .func (.func 32) #[] #[]] w fun e w' => (∃ b, e = .returned (.tuple #[.slice none 0 0, .bool b])) ∧ Below w.heap.size w w' := by
 have HSEQ := Aside0.mk hseq
 clear hseq
 refine (callsIn_wide (n := 5)).1 ?_
 refine callsIn_of_wp_marks Tryz.func31 rfl trivial ?_ rfl
 simp only [Tryz.ntmps31, List.size_toArray, List.length_cons, List.length_nil, Nat.reduceAdd, Nat.reduceSub, Array.replicate_succ, Array.replicate_zero, List.push_toArray, List.append_toArray, List.nil_append, List.cons_append]
 gi_wp2
 obtain ⟨B, hB⟩ : ∃ B, w.heap.size = B := ⟨_, rfl⟩
 rw [hB]
 obtain ⟨W0, hW0, e1, e2, e3, hb0, hs0⟩ := first_start w B hB
 rw [hW0]
 have HS := Aside0.mk (HSEQ.out W0 (by rw [hB]; exact hb0))
 rw [hB] at HS
 refine rangeFunc_all rfl (by omega) (gf := 28) (lb := #[.pointer (some ⟨bl, 0, none⟩)]) rfl trivial (enters_of Tryz.func28 (by kernel_rfl) rfl) (by omega) PxN_put HS.out (fun _ => rfl) (IFirst B w) (by rw [hs0]; exact IFirst_abides B w (by omega)) ⟨e1, e2, ⟨false, e3, fun _ => rfl⟩, hb0⟩
  (fun x => { tmps := #[.func (.func 28) #[] #[.pointer (some ⟨bl, 0, none⟩)], .func (.func 32) #[] #[], undef, .pointer (some ⟨B, 0, none⟩), .slice none 0 0, .bool false, .pointer (some ⟨B + 1, 0, none⟩), .pointer (some ⟨B + 1 + 1, 0, none⟩), x.1, .func (.func 28) #[] #[.pointer (some ⟨bl, 0, none⟩)], x.1, undef, undef, undef, undef, undef, undef, undef, undef, undef, undef, undef, undef], defers := [] }) ?assign ?body ?done
 case assign =>
  intro l x W K hK
  dsimp only [encX]
  gi_wp2
  exact hK
 case body =>
  rintro l pre x W ⟨h1, h2, ⟨b, h3, h4⟩, h5⟩ hx
  have k1 : W.cell? ⟨B, 0, none⟩ = some (.func (.func 32) #[] #[]) := (blk_cell h1 0).trans rfl
  have k2 : W.cell? ⟨B + 1, 0, none⟩ = some (.slice none 0 0) := (blk_cell h2 0).trans rfl
  have k3 : W.cell? ⟨B + 1 + 1, 0, none⟩ = some (.bool b) := (blk_cell h3 0).trans rfl
  have k5 := blk_frozen h2 0
  have k6 : W.frozen? ⟨B + 1 + 1, 0, none⟩ = false := blk_frozen h3 0
  rw [hs0]
  cases b with
  | false =>
   have hp := h4 rfl
   have hnil : x.1 = .slice none 0 0 := hx.1 hp
   rw [hnil]
   have H1 := Aside0.mk h1
   have H2 := Aside0.mk h2
   have H3 := Aside0.mk h3
   have H5 := Aside0.mk h5
   clear h1 h2 h3 h4 h5 hx hnil
   gi_wp2
   refine ⟨fun _ h => (by cases h), ?_⟩
   gi_wp2
   exact IFirst_set B w W pre x H1.out H2.out H3.out H5.out
  | true =>
   obtain ⟨_, A, c, hxe, hxc, hC⟩ := hx
   rw [hxe]
   obtain ⟨r, hr, hr0⟩ := shorter_nil x.2
   gi_wp2
   refine ⟨trivial, ?_⟩
   refine (CallsIn.inRound l (callsIn_wide.2 (name_shorter.calls 40 A c x.2 none 0 [] r W hC hxc (Kd.C_nil _ _) (Nat.le_refl _) hr))).mono ?_
   rintro e w' ⟨rfl, hb⟩
   have hlt : decide (r < 0) = false := by simp; omega
   gi_wp2
   exact IFirst_call B w W w' pre x h1 h2 h3 h5 hb
 case done =>
  rintro D xs W hD ⟨h1, h2, ⟨b, h3, h4⟩, h5⟩ hK
  have k2 : W.cell? ⟨B + 1, 0, none⟩ = some (.slice none 0 0) := (blk_cell h2 0).trans rfl
  have k3 : W.cell? ⟨B + 1 + 1, 0, none⟩ = some (.bool b) := (blk_cell h3 0).trans rfl
  have hmix : Tryz.prog.follows .mixedOrders = true := by kernel_rfl
  have HH := Aside0.mk h5
  have HK := Aside0.mk hK
  clear h5 h1 h2 h3 h4
  gi_wp2
  gi_region
  all_goals gi_wp2
  refine ⟨by simp, .inl ⟨_, _, rfl, run_takeDeferred (HK.out : W.drew.heap[D]? = _), ?_⟩⟩
  have hD2 : B ≤ D := by omega
  have hDlt : D < W.heap.size := (Array.getElem?_eq_some_iff.1 HK.out).1
  have hbW : Below B w W.drew := below_drew1 HH.out
  have hbE : Below B w (W.drew.putObj D (Obj.deferred none)) := hbW.trans ((Below.refl B W.drew).grown (grownBy_putObj' W.drew D (.deferred none)) (show B ≤ W.heap.size by omega) (fun k e => by cases e; exact hD2))
  exact ⟨_, results_tmp2 rfl _ _ _, ⟨b, rfl⟩, by rw [hB]; exact hbE⟩
end Go.Proofs.YteoknahabkoknaaGreatDoor.P
namespace Go.Proofs.YteoknahabkoknaaGreatDoor.P
open Go.RowKit Go.Shelf Go.Proofs.YteoknahabkoknaaGreatDoorW.PrintWords Go.Proofs.YteoknahabkoknaaGreatDoorW.PrintLast
set_option linter.unusedVariables false
set_option linter.unusedSimpArgs false
attribute [local go_sem] Oper.semAt_some
/- name.Wrong's iterator: it yields lists of numbers, the empty one first where the whole list is in order. -/
theorem infoI : (Tryz.prog.info? 3).map (fun i => (i.zero, i.size, i.bytes)) = some (some (.int .i64 0), 1, 8) := by kernel_rfl
theorem infoS : (Tryz.prog.info? 9).map (fun i => (i.zero, i.size, i.bytes)) = some (some (.string ⟨#[]⟩), 1, 16) := by kernel_rfl
theorem pow_small (n : Nat) (h : n ≤ 6) : ∃ N : Int, wrap64 (2 ^ n) = N ∧ 1 ≤ N ∧ N ≤ 64 := by
 have : n = 0 ∨ n = 1 ∨ n = 2 ∨ n = 3 ∨ n = 4 ∨ n = 5 ∨ n = 6 := by omega
 rcases this with rfl | rfl | rfl | rfl | rfl | rfl | rfl 
 ·exact ⟨1, by kernel_rfl, by omega, by omega⟩
 ·exact ⟨2, by kernel_rfl, by omega, by omega⟩
 ·exact ⟨4, by kernel_rfl, by omega, by omega⟩
 ·exact ⟨8, by kernel_rfl, by omega, by omega⟩
 ·exact ⟨16, by kernel_rfl, by omega, by omega⟩
 ·exact ⟨32, by kernel_rfl, by omega, by omega⟩
 ·exact ⟨64, by kernel_rfl, by omega, by omega⟩
theorem own_other {A C : World} {b e n : Nat} {v : Value} {cs : List Value} {b' e' n' : Nat} {v' : Value} {cs' : List Value} (h : A.ownsRow b e 1 v n cs) (h' : A.ownsRow b' e' 1 v' n' cs') (hne : e ≠ e') (hg : A.grownBy C v.ownBlock) : C.ownsRow b' e' 1 v' n' cs' :=
 own_move h' (fun k hk => by
  obtain ⟨_, hc⟩ := own_typed h' k hk
  refine hg.block k (blk_lt hc) (fun e => ?_)
  obtain ⟨_, hc2⟩ := own_typed h k e.symm
  rw [hc] at hc2
  injection hc2 with hc2
  injection hc2 with _ hc2
  exact hne hc2.symm)
theorem own_grown {A C : World} {o : Obj} {b e n : Nat} {v : Value} {cs : List Value} (h : A.ownsRow b e 1 v n cs) (hb : b ≤ A.heap.size) (hg : (A.alloc o).grownBy C v.ownBlock) : A.grownBy C v.ownBlock ∧ Below b A C ∧ ∀ k, v.ownBlock = some k → b ≤ k := by
 have h1 : A.grownBy C v.ownBlock := (World.grownBy_alloc A o _).trans hg
 exact ⟨h1, (Below.refl b A).grown h1 hb (fun k hk => own_base h k hk), fun k hk => own_base h k hk⟩
theorem sortedF_total {l0 : List ByteArray} (hcmp : ∀ x ∈ l0, ∀ y ∈ l0, ∃ c, cmpN x y = some c) {ys : List ByteArray} (hy : ∀ y ∈ ys, y ∈ l0) : ∀ m, m < ys.length ∨ m = 0 → ∃ r, sortedF ys m = some r
 | 0, _ => ⟨true, rfl⟩
 | m + 1, h => by
  have hm : m + 1 < ys.length := by omega
  have mem : ∀ i, i < ys.length → atS ys i ∈ l0 := fun i hi => by
   refine hy _ ?_
   unfold atS
   rw [List.getD_eq_getElem?_getD, List.getElem?_eq_getElem hi]
   exact List.getElem_mem _
  obtain ⟨c, hc⟩ := hcmp _ (mem (m + 1) hm) _ (mem m (by omega))
  obtain ⟨r, hr⟩ := sortedF_total hcmp hy m (.inl (by omega))
  unfold sortedF
  rw [hc]
  simp only [Option.bind_some]
  by_cases h0 : c < 0
  ·exact ⟨false, by rw [if_pos h0]⟩
  ·exact ⟨r, by rw [if_neg h0]; exact hr⟩
theorem bit0 : (bits BinOp.and IntKind.i64 0 1 == 1) = false := by kernel_rfl
set_option maxHeartbeats 4000000 in
set_option maxRecDepth 100000 in
theorem right_yields (bl : Nat) (A0 : Option Addr) (c0 : Nat) (l0 : List ByteArray) (n₀ : Nat) (w : World) (hn₀ : n₀ ≤ w.heap.size) (hbl : bl < n₀) (hb : w.heap[bl]? = some (.cells #[.slice A0 l0.length c0] 25 (0, 0))) (hC : ∀ W, Below n₀ w W → Kd.C Kd.string W A0 l0.length l0)
  (hlen : l0.length ≤ 6) (hcmp : ∀ x ∈ l0, ∀ y ∈ l0, ∃ c, cmpN x y = some c) (hsort : sortedF l0 (l0.length - 1) = some true) :
  Yields Fence.wide 4 Tryz.prog 28 #[.pointer (some ⟨bl, 0, none⟩)] encX PxN n₀ w := by
 intro l J W hW hJ hY h0
 obtain ⟨i0, hi, hz0, hz1, hz2⟩ := info_parts infoI
 obtain ⟨i1, hs, hs0, hs1, hs2⟩ := info_parts infoS
 have HB := Aside0.mk hb
 have HC := Aside0.mk hC
 have HCMP := Aside0.mk hcmp
 have HSORT := Aside0.mk hsort
 have HW := Aside0.mk hW
 have HJ := Aside0.mk hJ
 have HY := Aside0.mk hY
 have H0 := Aside0.mk h0
 have k0 : W.cell? ⟨bl, 0, none⟩ = some (.slice A0 l0.length c0) := (blk_cell ((hW.block bl (by omega)).trans hb) 0).trans rfl
 clear hb hC hcmp hsort hW hJ hY h0
 refine callsIn_of_wp Tryz.func28 rfl trivial ?_ rfl
 simp only [Tryz.ntmps28, List.size_toArray, List.length_cons, List.length_nil, Nat.reduceAdd, Nat.reduceSub, Array.replicate_succ, Array.replicate_zero, List.push_toArray, List.append_toArray, List.nil_append, List.cons_append]
 gi_wp2
 obtain ⟨N, hN, hN1, hN2⟩ := pow_small l0.length hlen
 rw [hN]
 clear hN
 gi_loopw [11] (fun v wr => ∃ (k : Int) (pre : List (Value × List Int)), v = .int .i64 k ∧ 0 ≤ k ∧ k ≤ N ∧ Aside0 (J pre wr) ∧ Aside0 (Below n₀ W wr) ∧ Aside0 (W.heap.size ≤ wr.heap.size) ∧ Aside0 (0 < k → pre ≠ [])) (fun v _ => (N - intOf v).toNat)
 case atStart => exact ⟨0, [], rfl, by omega, by omega, H0, ⟨Below.refl _ _⟩, ⟨Nat.le_refl _⟩, ⟨fun h => by omega⟩⟩
 case round =>
  obtain ⟨k, pre, rfl, hk0, hk1, HJ1, HBW, HSZ, HPRE⟩ := hrel
  by_cases hkN : k < N
  ·have k2 : wr.cell? ⟨bl, 0, none⟩ = some (.slice A0 l0.length c0) := (HBW.out.cell (p := ⟨bl, 0, none⟩) hbl).trans k0
   clear k0
   gi_wp2
   generalize wr = WR at *
   obtain ⟨R, hR⟩ : ∃ R, WR.heap.size = R := ⟨_, rfl⟩
   have HR := Aside0.mk hR
   clear hR
   gi_loopw [4, 5, 16] (fun v4 v5 v16 w' => ∃ (i : Int) (xs : List Int) (ys : List ByteArray), v16 = .int .i64 i ∧ 0 ≤ i ∧ i ≤ l0.length ∧ Aside0 (w'.ownsRow R 3 1 v4 xs.length (xs.map (Value.int .i64))) ∧ Aside0 (w'.ownsRow R 9 1 v5 ys.length (ys.map Value.string)) ∧
    Aside0 (xs.length ≤ i.toNat ∧ ys.length ≤ i.toNat ∧ (∀ y ∈ ys, y ∈ l0) ∧ (k = 0 → xs = [] ∧ v4 = .slice none 0 0 ∧ ys = l0.take i.toNat)) ∧ Aside0 (J pre w') ∧ Aside0 (Below R WR w')) (fun _ _ v16 _ => l0.length - (intOf v16).toNat)
   case atStart => exact ⟨0, [], [], rfl, by omega, by omega, ⟨World.ownsRow_nil _ _ _ _⟩, ⟨World.ownsRow_nil _ _ _ _⟩, ⟨by simp, by simp, fun y hy => by simp at hy, fun _ => ⟨rfl, rfl, by simp⟩⟩, HJ1, ⟨Below.refl _ _⟩⟩
   case round =>
    obtain ⟨i, xs, ys, rfl, hi0, hi1, hrow4, hrow5, hK, hJ2, hB2⟩ := hrel
    by_cases hiL : i < l0.length
    ·have hBw : Below n₀ w wr := ((HW.out.mono hn₀).trans HBW.out).trans (hB2.out.mono (by have := HSZ.out; have := HR.out; have := HW.out.size; omega))
     obtain ⟨ad, rfl, hc1⟩ := Kd.at_string (HC.out _ hBw) i hi0 hiL
     have hx : rdOf ByteArray.empty l0 i ∈ l0 := by
      unfold rdOf
      rw [List.getD_eq_getElem?_getD, List.getElem?_eq_getElem (by omega)]
      exact List.getElem_mem _
     have hT : l0.take (i.toNat + 1) = l0.take i.toNat ++ [rdOf ByteArray.empty l0 i] := by
      rw [List.take_add_one, List.getElem?_eq_getElem (by omega)]
      unfold rdOf
      rw [List.getD_eq_getElem?_getD, List.getElem?_eq_getElem (by omega)]
      rfl
     generalize rdOf ByteArray.empty l0 i = x at *
     have HX := Aside0.mk (And.intro hx hT)
     clear hx hT hBw
     have hl4 : xs.length ≤ 6 := by have := hK.out.1; omega
     have hl5 : ys.length ≤ 6 := by have := hK.out.2.1; omega
     obtain ⟨bt, hbt⟩ : ∃ bt : Bool, (bits BinOp.and IntKind.i64 (k / 2 ^ i.toNat) 1 == 1) = bt := ⟨_, rfl⟩
     have hRle : R ≤ wr.heap.size := by have := hB2.out.size; have := HR.out; omega
     cases bt with
     | true =>
      have hk : k ≠ 0 := by
       rintro rfl
       rw [Int.zero_ediv] at hbt
       exact absurd hbt (by rw [bit0]; simp)
      have hr4 := hrow4.out
      have E1 := Aside0.mk hi
      gi_wp2_with (gi_at_builtin; refine wpListIn_append_own _ rfl _ _ 22 rfl R 3 i0 (.int .i64 0) 1 8 Tryz.underlying22 hi hz0 hz1 hz2 rfl (by decide) _ _ _ rfl (hr4.alloc _) ⟨wr.heap.size, 0, none⟩ 1 1 [.int .i64 i] rfl rfl (cell_one_new _ _ _) (by simp [Value.oneCell']) (by unfold maxLen; omega) (by omega) (by simp; omega) ?_; intro v' w1 hown' hgrow _)
      obtain ⟨hg, hbe, hba⟩ := own_grown hr4 hRle hgrow
      have hr5 := own_other hr4 hrow5.out (by decide) hg
      have hj := HJ.out pre wr w1 _ hJ2.out hg (fun r e => by have := hba r e; have := HSZ.out; have := HR.out; omega)
      refine ⟨⟨i + 1, xs ++ [i], ys, rfl, by omega, by omega, ⟨by simpa using hown'⟩, ⟨hr5⟩, ⟨?_, ?_, hK.out.2.2.1, fun h => absurd h hk⟩, ⟨hj⟩, ⟨hB2.out.trans hbe⟩⟩, by simp [intOf]; omega⟩
      ·have := hK.out.1
       simp
       omega
      ·have := hK.out.2.1
       omega
     | false =>
      have hr5 := hrow5.out
      gi_wp2_with (gi_at_builtin; refine wpListIn_append_own _ rfl _ _ 25 rfl R 9 i1 (.string ⟨#[]⟩) 1 16 Tryz.underlying25 hs hs0 hs1 hs2 rfl (by decide) _ _ _ rfl (hr5.alloc _) ⟨wr.heap.size, 0, none⟩ 1 1 [.string x] rfl rfl (cell_one_new _ _ _) (by simp [Value.oneCell']) (by unfold maxLen; omega) (by omega) (by simp; omega) ?_; intro v' w1 hown' hgrow _)
      obtain ⟨hg, hbe, hba⟩ := own_grown hr5 hRle hgrow
      have hr4 := own_other hr5 hrow4.out (by decide) hg
      have hj := HJ.out pre wr w1 _ hJ2.out hg (fun r e => by have := hba r e; have := HSZ.out; have := HR.out; omega)
      have e1 : (i + 1).toNat = i.toNat + 1 := by omega
      refine ⟨⟨i + 1, xs, ys ++ [x], rfl, by omega, by omega, ⟨hr4⟩, ⟨by simpa using hown'⟩, ⟨?_, ?_, ?_, ?_⟩, ⟨hj⟩, ⟨hB2.out.trans hbe⟩⟩, by simp [intOf]; omega⟩
      ·have := hK.out.1
       omega
      ·have := hK.out.2.1
       simp
       omega
      ·intro y hy
       rcases List.mem_append.1 hy with hy | hy
       ·exact hK.out.2.2.1 y hy
       ·rw [List.mem_singleton.1 hy]
        exact HX.out.1
      ·intro h
       obtain ⟨a1, a2, a3⟩ := hK.out.2.2.2 h
       exact ⟨a1, a2, by rw [e1, HX.out.2, ← a3]⟩
    ·have hie : i = l0.length := by omega
     have hK2 : Aside0 ((∀ y ∈ ys, y ∈ l0) ∧ (k = 0 → xs = [] ∧ u4 = .slice none 0 0 ∧ ys = l0)) := ⟨hK.out.2.2.1, fun h => by
      obtain ⟨a1, a2, a3⟩ := hK.out.2.2.2 h
      exact ⟨a1, a2, by rw [a3, hie, Int.toNat_natCast, List.take_length]⟩⟩
     obtain ⟨A4, c4, rfl, hc4, hR4⟩ := own_reads_of_le (d := (0 : Int)) (enc := Value.int .i64) (xs := xs) hrow4.out
     obtain ⟨A5, c5, rfl, hc5, hR5⟩ := own_reads_of_le (d := ByteArray.empty) (enc := Value.string) (xs := ys) hrow5.out
     have hC4 : Kd.C (Kd.int .i64) wr A4 xs.length xs := Kd.C_of_reads hR4
     have hC5 : Kd.C Kd.string wr A5 ys.length ys := Kd.C_of_reads hR5
     obtain ⟨r, hr⟩ := sortedF_total HCMP.out hK2.out.1 (ys.length - 1) (by omega)
     have hys : ys.length ≤ 1000 := by have := hK.out.2.1; omega
     have HK0 : Aside0 (k = 0 → r = true ∧ (Value.slice A4 xs.length c4) = .slice none 0 0) := ⟨fun h => by
      obtain ⟨a1, a2, a3⟩ := hK2.out.2 h
      rw [a3, HSORT.out] at hr
      exact ⟨(Option.some.inj hr).symm, a2⟩⟩
     have hcall := sorted_calls A5 c5 ys r wr hC5 hc5 hys hr
     have HC4 := Aside0.mk hC4
     have HCALL := Aside0.mk hcall
     have hBw : Below n₀ W wr := HBW.out.trans (hB2.out.mono (by have := HSZ.out; have := HR.out; have := HW.out.size; omega))
     have HBW2 := Aside0.mk hBw
     have HWS : Aside0 (W.heap.size ≤ wr.heap.size) := ⟨by have := HSZ.out; have := HR.out; have := hB2.out.size; omega⟩
     clear hC4 hC5 hcall hr hR4 hR5 hrow4 hrow5 hK hK2 HJ1 hBw k2
     gi_wp2
     refine ⟨trivial, ?_⟩
     refine (callsIn_wide.2 HCALL.out).mono ?_
     rintro e W2 ⟨rfl, hb⟩
     have HJ3 : Aside0 (J pre W2) := ⟨HJ.out pre wr W2 none hJ2.out ⟨hb.os, hb.tape, hb.output, hb.size, fun q hq _ => hb.block q hq⟩ (fun r e => by cases e)⟩
     have HC6 := Aside0.mk (Kd.C_below HC4.out hb)
     have HB3 : Aside0 (Below n₀ W W2) := ⟨HBW2.out.trans (hb.mono (by have := HWS.out; have := HW.out.size; omega))⟩
     have HS3 : Aside0 (W.heap.size ≤ W2.heap.size) := ⟨Nat.le_trans HWS.out hb.size⟩
     clear hJ2 hB2 hb HCALL HC4 HBW2 HWS
     cases r with
     | false =>
      have hk : k ≠ 0 := fun h => by have := (HK0.out h).1; simp at this
      gi_wp2
      refine ⟨fun _ h => (by cases h), ?_⟩
      gi_wp2
      exact ⟨⟨k + 1, pre, rfl, by omega, by omega, HJ3, HB3, HS3, ⟨fun _ => HPRE.out (by omega)⟩⟩, by simp [intOf]; omega⟩
     | true =>
      obtain ⟨fn, tmps, assign, body, hy, hR⟩ := HY.out pre (.slice A4 xs.length c4, xs) W2 HJ3.out ⟨fun hp => (HK0.out (Classical.byContradiction fun h => HPRE.out (by omega) hp)).2, A4, c4, rfl, hc4, HC6.out⟩
      dsimp only [encX] at hy
      have HRR := Aside0.mk hR
      clear hR
      gi_wp2
      refine HRR.out.mono ?_
      rintro e W3 ⟨rfl, hJ4, hb4⟩
      have HJ4 := Aside0.mk hJ4
      have HB4 : Aside0 (Below n₀ W W3) := ⟨HB3.out.trans hb4⟩
      have HS4 : Aside0 (W.heap.size ≤ W3.heap.size) := ⟨Nat.le_trans HS3.out hb4.size⟩
      clear hJ4 hb4 HRR hy
      gi_wp2
      exact ⟨⟨k + 1, pre ++ [(Value.slice A4 xs.length c4, xs)], rfl, by omega, by omega, HJ4, HB4, HS4, ⟨fun _ h => by simp at h⟩⟩, by simp [intOf]; omega⟩
  ·gi_wp2
   go_end0
   exact ⟨⟨_, rfl⟩, pre, HJ1.out⟩
end Go.Proofs.YteoknahabkoknaaGreatDoor.P
namespace Go.Proofs.YteoknahabkoknaaGreatDoor.P
open Go.RowKit Go.Proofs.YteoknahabkoknaaGreatDoorW.PrintWords Go.Proofs.YteoknahabkoknaaGreatDoorW.PrintLast
set_option linter.unusedVariables false
set_option linter.unusedSimpArgs false
/- name.Wrong, of names in order. -/
def cmpAll (l : List ByteArray) : Bool := l.all fun x => l.all fun y => (cmpN x y).isSome
def name_Wrong.f (l0 : List ByteArray) : Option (List Int × Int) :=
 (name_listed.f 40 l0).bind fun e => if e = 0 then (if l0.length ≤ 6 ∧ cmpAll l0 = true ∧ sortedF l0 (l0.length - 1) = some true then some ([], 0) else none) else some ([], e)
theorem wrong_start (w : World) (A0 : Option Addr) (c0 : Nat) (l0 : List ByteArray) (B : Nat) (hB : w.heap.size = B) : ∃ W1, w.alloc (.cells #[.slice A0 l0.length c0] 25) = W1 ∧ W1.heap[B]? = some (.cells #[.slice A0 l0.length c0] 25 (0, 0)) ∧ Below B w W1 ∧ W1.heap.size = B + 1 := by
 subst hB
 exact ⟨_, rfl, blk_new w _, (Below.refl _ _).alloc (Nat.le_refl _) _, World.size_alloc _ _⟩
set_option maxHeartbeats 4000000 in
set_option maxRecDepth 100000 in
theorem name_Wrong.calls (A0 : Option Addr) (c0 : Nat) (l0 : List ByteArray) (r1 : List Int) (r2 : Int) (w : World) (hr0 : Kd.C Kd.string w A0 l0.length l0) (hc0 : l0.length ≤ c0) (h : name_Wrong.f l0 = some (r1, r2)) :
  Calls Tryz.prog 12 #[.slice A0 l0.length c0] w fun e w' => ∃ v0_ : Value, e = .returned (.tuple #[v0_, .int .i64 r2]) ∧ Kd.R (Kd.int .i64) 3 w' w.heap.size (fun _ => True) v0_ r1 ∧ Below w.heap.size w w' := by
 unfold name_Wrong.f at h
 obtain ⟨e, he, h⟩ := Option.bind_eq_some_iff.1 h
 obtain ⟨B, hB⟩ : ∃ B, w.heap.size = B := ⟨_, rfl⟩
 obtain ⟨W1, hW1, e1, b1, s1⟩ := wrong_start w A0 c0 l0 B hB
 have k1 : W1.cell? ⟨B, 0, none⟩ = some (.slice A0 l0.length c0) := (blk_cell e1 0).trans rfl
 have HL := Aside0.mk he
 have HR := Aside0.mk hr0
 have HR1 := Aside0.mk (Kd.C_below hr0 (by rw [hB]; exact b1))
 have HC0 := Aside0.mk hc0
 have E1 := Aside0.mk e1
 have B1 := Aside0.mk b1
 have S1 := Aside0.mk s1
 clear he hr0 hc0 e1 b1 s1
 go_enter Tryz.func12, Tryz.ntmps12
 go_upto_region 1 with fail
 clear hW1
 by_cases he0 : e = 0
 ·rw [if_pos he0] at h
  split at h
  case isFalse => cases h
  rename_i hc
  injection h with h
  injection h with h1 h2
  subst h1 h2 he0
  have HC := Aside0.mk hc
  clear hc
  go_wp2_with (first
   | (go_at_call 27; refine (name_listed.calls 40 A0 c0 l0 0 _ HR1.out HC0.out HL.out).mono ?_; rintro e w2 ⟨rfl, hb2⟩; have HB2 := Aside0.mk hb2; clear hb2)
   | (go_at_call 31; refine (first_calls B _ (fun W hW => right_yields B A0 c0 l0 w2.heap.size W hW.size (Nat.lt_of_lt_of_le (by have := S1.out; omega) HB2.out.size) ((hW.block B (Nat.lt_of_lt_of_le (by have := S1.out; omega) HB2.out.size)).trans ((HB2.out.block B (by have := S1.out; omega)).trans E1.out)) (fun W' hW' => Kd.C_below HR.out (by rw [hB]; exact ((B1.out.trans (HB2.out.mono (by have := S1.out; omega))).trans (hW.mono (Nat.le_trans (by have := S1.out; omega) HB2.out.size))).trans (hW'.mono (Nat.le_trans (by have := S1.out; omega) HB2.out.size)))) HC.out.1 (fun x hx y hy => Option.isSome_iff_exists.1 (List.all_eq_true.1 (List.all_eq_true.1 HC.out.2.1 x hx) y hy)) HC.out.2.2)).mono ?_; rintro e w3 ⟨⟨b, rfl⟩, hb3⟩; have HB3 := Aside0.mk hb3; clear hb3)
   | go_in)
  go_ret2
  exact ⟨.slice none 0 0, rfl, Kd.R_nil _ _ _ _ _, by rw [hB]; exact (B1.out.trans (HB2.out.mono (by have := S1.out; omega))).trans (HB3.out.mono (Nat.le_trans (by have := S1.out; omega) HB2.out.size))⟩
 ·rw [if_neg he0] at h
  injection h with h
  injection h with h1 h2
  subst h1 h2
  go_wp2_with (first
   | (go_at_call 27; refine (name_listed.calls 40 A0 c0 l0 _ _ HR1.out HC0.out HL.out).mono ?_; rintro e w2 ⟨rfl, hb2⟩; have HB2 := Aside0.mk hb2; clear hb2)
   | go_in)
  go_ret2
  exact ⟨.slice none 0 0, rfl, Kd.R_nil _ _ _ _ _, by rw [hB]; exact B1.out.trans (HB2.out.mono (by have := S1.out; omega))⟩
end Go.Proofs.YteoknahabkoknaaGreatDoor.P
