/- Parts of the proof of topCorrected_card: the texts MDiff2, P13, P14, P1, MMade of the session's own drivers and templates, laid together by a program of the session's own; what the theorem does not come to is left out. -/
import Derived.Carry
import Derived.Deep.RegionHeld3
import Derived.Laws.EntriesVeiled
import Derived.LoopN
import Derived.Maps.Own
import Derived.Outline
import Derived.Test.YteoknahabkoknaaGreatDoorY1
import Derived.Test.YteoknahabkoknaaGreatDoorY2
import Derived.Test.YteoknahabkoknaaGreatDoorY3
namespace Go.Proofs.YteoknahabkoknaaGreatDoor.P
open Go.RowKit Go.Proofs.YteoknahabkoknaaGreatDoorW.PrintWords Go.Proofs.YteoknahabkoknaaGreatDoorW.PrintLast
set_option linter.unusedVariables false
set_option linter.unusedSimpArgs false
/- proof.diff. -/
theorem bestAt_put {old page : List ByteArray} {j : Nat} (hj : j < page.length) : bestAt old page old.length j = (bestAt old page old.length (j + 1)).bind fun l => behindO l ⟨1, old.length, page[j]⟩ := by
 unfold bestAt
 rw [List.drop_length, List.drop_eq_getElem_cons hj]
 rfl
theorem bestAt_take {old page : List ByteArray} {i : Nat} (hi : i < old.length) : bestAt old page i page.length = (bestAt old page (i + 1) page.length).bind fun l => behindO l ⟨3, i, ⟨#[]⟩⟩ := by
 unfold bestAt
 rw [List.drop_length, List.drop_eq_getElem_cons hi]
 rfl
theorem bestAt_both {old page : List ByteArray} {i j : Nat} (hi : i < old.length) (hj : j < page.length) : bestAt old page i j =
  (bestAt old page i (j + 1)).bind fun l1 => (behindO l1 ⟨1, i, page[j]⟩).bind fun b1 => (bestAt old page (i + 1) j).bind fun l2 => (behindO l2 ⟨3, i, ⟨#[]⟩⟩).bind fun b2 =>
  (bestAt old page (i + 1) (j + 1)).bind fun l3 => (behindO l3 ⟨2, i, page[j]⟩).bind fun b3 => leastL b1 ([b2, b3] ++ if old[i].toList = page[j].toList then [l3] else []) := by
 unfold bestAt
 rw [List.drop_eq_getElem_cons hi, List.drop_eq_getElem_cons hj]
 rfl
theorem addr_toNat {A : Addr} (a : Int) (i : Nat) (h : a = i) : A.add a.toNat = A.add i := by rw [h]; rfl
theorem from_calls {B N bk bo bp bf gm co cp : Nat} {Ao Ap : Option Addr} {old page : List ByteArray} {w0 : World} (hold : old.length ≤ 500) (hpage : page.length ≤ 500) (hCo : ∀ W, Below B w0 W → Kd.C Kd.string W Ao old.length old) (hCp : ∀ W, Below B w0 W → Kd.C Kd.string W Ap page.length page) :
  ∀ (m i j : Nat) (a b : Int) (r : LM) (w : World), (old.length - i) + (page.length - j) = m → i ≤ old.length → j ≤ page.length → a = i → b = j → FromSt B N bk bo bp bf gm co cp Ao Ap old page w0 w → bestAt old page i j = some r →
  Calls Tryz.prog 43 #[.int .i64 a, .int .i64 b, .pointer (some ⟨bk, 0, none⟩), .pointer (some ⟨bo, 0, none⟩), .pointer (some ⟨bp, 0, none⟩), .pointer (some ⟨bf, 0, none⟩)] w fun e w' => ∃ v, e = .returned (.agg #[.int .i64 r.1, v]) ∧ RM B w' v r.2 ∧ FromSt B N bk bo bp bf gm co cp Ao Ap old page w0 w' ∧ w.grownBy w' (some gm) := by
 intro m
 induction m using Nat.strongRecOn with
 | _ m ih =>
  intro i j a b r w hm hi hj ha hb hS hr
  have hkey : (.agg #[.int .i64 a, .int .i64 b] : Value) = keyV i j := by rw [ha, hb]; rfl
  have hi2 : i ≤ 1000 := by omega
  have hj2 : j ≤ 1000 := by omega
  have hgm : ∀ w' : World, Below w.heap.size w w' → w'.heap[gm]? = w.heap[gm]? := fun w' hw' => hw'.block gm (Nat.lt_of_lt_of_le hS.n.2.2.2.2.1 hS.n.2.2.2.2.2.1)
  rcases hS.m.look2 i j hi2 hj2 with hyes | hno
  ·refine from_hit i j a b w r hS hr (fun w' hw' => ?_)
   rw [hkey]
   exact hyes w' (hgm w' hw') (Keep42.of_below hw')
  ·have hlk : ∀ w', Below w.heap.size w w' → (Instr.lookup 82 (.map (some gm)) (.agg #[.int .i64 a, .int .i64 b]) true).run Tryz.prog w' = .ok (.tuple #[.agg #[.int .i64 0, .slice none 0 0], .bool false]) w' := by
    intro w' hw'
    rw [hkey]
    exact hno w' (hgm w' hw')
   have C1 : ∀ (i' j' : Nat) (a' b' : Int) (l : LM), (old.length - i') + (page.length - j') < m → i' ≤ old.length → j' ≤ page.length → a' = i' → b' = j' → bestAt old page i' j' = some l → ∀ W, FromSt B N bk bo bp bf gm co cp Ao Ap old page w0 W → _ := fun i' j' a' b' l h1 h2 h3 h4 h5 h6 W hW => ih _ h1 i' j' a' b' l W rfl h2 h3 h4 h5 hW h6
   have cellO : ∀ (ado : Addr), Ao = some ado → ∀ (hio : i < old.length), ∀ W, Below B w0 W → W.cell? (ado.add a.toNat) = some (.string old[i]) := by
    intro ado he hio W hW
    obtain ⟨ad, e, hc⟩ := (Kd.reads_of_C (enc := Value.string) (d := ByteArray.empty) (h1 := fun _ => rfl) (hCo W hW)).2.2 (by omega)
    rw [he] at e
    obtain rfl := Option.some.inj e
    rw [addr_toNat a i ha, hc i hio, List.getD_eq_getElem?_getD, List.getElem?_eq_getElem hio]
    rfl
   have cellP : ∀ (adp : Addr), Ap = some adp → ∀ (hjp : j < page.length), ∀ W, Below B w0 W → W.cell? (adp.add b.toNat) = some (.string page[j]) := by
    intro adp he hjp W hW
    obtain ⟨ad, e, hc⟩ := (Kd.reads_of_C (enc := Value.string) (d := ByteArray.empty) (h1 := fun _ => rfl) (hCp W hW)).2.2 (by omega)
    rw [he] at e
    obtain rfl := Option.some.inj e
    rw [addr_toNat b j hb, hc j hjp, List.getD_eq_getElem?_getD, List.getElem?_eq_getElem hjp]
    rfl
   by_cases hio : i < old.length
   ·obtain ⟨ado, hado⟩ : ∃ ado, Ao = some ado := ((Kd.reads_of_C (enc := Value.string) (d := ByteArray.empty) (h1 := fun _ => rfl) (hCo w hS.b)).2.2 (by omega)).imp fun _ h => h.1
    by_cases hjp : j < page.length
    ·obtain ⟨adp, hadp⟩ : ∃ adp, Ap = some adp := ((Kd.reads_of_C (enc := Value.string) (d := ByteArray.empty) (h1 := fun _ => rfl) (hCp w hS.b)).2.2 (by omega)).imp fun _ h => h.1
     have hr2 := hr
     rw [bestAt_both hio hjp] at hr2
     simp only [Option.bind_eq_some_iff] at hr2
     obtain ⟨l1, hl1, m1, hm1, l2, hl2, m2, hm2, l3, hl3, m3, hm3, hle⟩ := hr2
     have g1 := C1 i (j + 1) a (b + 1) l1 (by omega) hi (by omega) ha (by omega) hl1
     have g2 := C1 (i + 1) j (a + 1) b l2 (by omega) (by omega) hj (by omega) hb hl2
     have g3 := C1 (i + 1) (j + 1) (a + 1) (b + 1) l3 (by omega) (by omega) (by omega) (by omega) (by omega) hl3
     have hwa : wrap64 (a + 1) = a + 1 := by unfold wrap64; omega
     have hwb : wrap64 (b + 1) = b + 1 := by unfold wrap64; omega
     by_cases heq : old[i].toList = page[j].toList
     ·rw [if_pos heq] at hle
      exact from_both i j a b (a + 1) (b + 1) page[j] old[i] l1 l2 l3 m1 m2 m3 r w hado hadp hS (by omega) (by omega) hkey hi2 hj2 hr hlk hwb (by omega) ⟨g1⟩ ⟨by rw [ha]; exact hm1⟩ ⟨cellP adp hadp hjp⟩ hwa (by omega) (by rw [beq_eq_false_iff_ne]; omega) ⟨g2⟩ ⟨by rw [ha]; exact hm2⟩ ⟨g3⟩ ⟨by rw [ha]; exact hm3⟩ ⟨cellO ado hado hio⟩ (by rw [heq]; exact beq_self_eq_true _) ⟨hle⟩
     ·rw [if_neg heq] at hle
      exact from_both_ne i j a b (a + 1) (b + 1) page[j] old[i] l1 l2 l3 m1 m2 m3 r w hado hadp hS (by omega) (by omega) hkey hi2 hj2 hr hlk hwb (by omega) ⟨g1⟩ ⟨by rw [ha]; exact hm1⟩ ⟨cellP adp hadp hjp⟩ hwa (by omega) (by rw [beq_eq_false_iff_ne]; omega) ⟨g2⟩ ⟨by rw [ha]; exact hm2⟩ ⟨g3⟩ ⟨by rw [ha]; exact hm3⟩ ⟨cellO ado hado hio⟩ (by rw [beq_eq_false_iff_ne]; exact heq) ⟨hle⟩
    ·have hje : j = page.length := by omega
     have hr2 := hr
     rw [hje, bestAt_take hio] at hr2
     simp only [Option.bind_eq_some_iff] at hr2
     obtain ⟨l2, hl2, hm2⟩ := hr2
     have g2 := C1 (i + 1) j (a + 1) b l2 (by omega) (by omega) hj (by omega) hb (by rw [hje]; exact hl2)
     have hwa : wrap64 (a + 1) = a + 1 := by unfold wrap64; omega
     exact from_take (adp := ⟨0, 0, none⟩) i j a b (a + 1) 0 ByteArray.empty ByteArray.empty (0, []) l2 (0, []) (0, []) r (0, []) r w hado trivial hS (by omega) (by omega) hkey hi2 hj2 hr hlk (by omega) hwa (by omega) (by rw [beq_eq_false_iff_ne]; omega) ⟨g2⟩ ⟨by rw [ha]; exact hm2⟩ ⟨rfl⟩
   ·have hie : i = old.length := by omega
    by_cases hjp : j < page.length
    ·obtain ⟨adp, hadp⟩ : ∃ adp, Ap = some adp := ((Kd.reads_of_C (enc := Value.string) (d := ByteArray.empty) (h1 := fun _ => rfl) (hCp w hS.b)).2.2 (by omega)).imp fun _ h => h.1
     have hr2 := hr
     rw [hie, bestAt_put hjp] at hr2
     simp only [Option.bind_eq_some_iff] at hr2
     obtain ⟨l1, hl1, hm1⟩ := hr2
     have g1 := C1 i (j + 1) a (b + 1) l1 (by omega) hi (by omega) ha (by omega) (by rw [hie]; exact hl1)
     have hwb : wrap64 (b + 1) = b + 1 := by unfold wrap64; omega
     exact from_put (ado := ⟨0, 0, none⟩) i j a b 0 (b + 1) page[j] ByteArray.empty l1 (0, []) (0, []) r (0, []) (0, []) r w trivial hadp hS (by omega) (by omega) hkey hi2 hj2 hr hlk hwb (by omega) ⟨g1⟩ ⟨by rw [ha, hie]; exact hm1⟩ ⟨cellP adp hadp hjp⟩ (by omega) (by rw [ha, hie]; simp) (by rw [beq_eq_false_iff_ne]; omega) ⟨rfl⟩
    ·have hje : j = page.length := by omega
     have hr2 := hr
     unfold bestAt at hr2
     rw [hie, hje, List.drop_length, List.drop_length] at hr2
     refine from_end (ado := ⟨0, 0, none⟩) (adp := ⟨0, 0, none⟩) i j a b 0 0 ByteArray.empty ByteArray.empty (0, []) (0, []) (0, []) (0, []) (0, []) (0, []) r w trivial trivial hS (by omega) (by omega) hkey hi2 hj2 hr hlk (by omega) (by omega) (by rw [ha, hie]; simp) (by rw [hb, hje]; simp) ⟨hr2⟩
theorem field85 (x : Int) (A : Option Addr) (n c : Nat) (W : World) : (Instr.field 85 (.agg #[.int .i64 x, .slice A n c]) 1).run Tryz.prog W = .ok (.slice A n c) W := by kernel_rfl
/-- What lies when the inner function is called first. -/
theorem diff_start (w : World) (A0 A1 : Option Addr) (c0 c1 : Nat) (l0 l1 : List ByteArray) (B : Nat) (hB : w.heap.size = B) : ∃ W1,
  (((((w.alloc (Obj.cells #[Value.slice A0 l0.length c0] 25)).alloc (Obj.cells #[Value.slice A1 l1.length c1] 25)).alloc (Obj.map #[] 0)).alloc (Obj.cells #[Value.map (some (B + 1 + 1))] 82)).alloc
   (Obj.cells #[Value.func (Fn.func 43) #[] #[Value.pointer (some { block := B + 1 + 1 + 1, off := 0 }), Value.pointer (some { block := B, off := 0 }), Value.pointer (some { block := B + 1, off := 0 }), Value.pointer (some { block := B + 1 + 1 + 1 + 1, off := 0 })]] 83)) = W1 ∧
  FromSt B (B + 5) (B + 1 + 1 + 1) B (B + 1) (B + 1 + 1 + 1 + 1) (B + 1 + 1) c0 c1 A0 A1 l0 l1 w W1 := by
 refine ⟨_, rfl, ?_⟩
 subst hB
 have e1 := blk_new w (Obj.cells #[Value.slice A0 l0.length c0] 25)
 have b1 : Below w.heap.size w (w.alloc (Obj.cells #[Value.slice A0 l0.length c0] 25)) := (Below.refl _ _).alloc (Nat.le_refl _) _
 have s1 : (w.alloc (Obj.cells #[Value.slice A0 l0.length c0] 25)).heap.size = w.heap.size + 1 := World.size_alloc _ _
 generalize w.alloc (Obj.cells #[Value.slice A0 l0.length c0] 25) = w1 at *
 have e2 := blk_new w1 (Obj.cells #[Value.slice A1 l1.length c1] 25)
 have e1 := blk_alloc e1 (Obj.cells #[Value.slice A1 l1.length c1] 25)
 have b2 := b1.alloc b1.size (Obj.cells #[Value.slice A1 l1.length c1] 25)
 have s2 : (w1.alloc (Obj.cells #[Value.slice A1 l1.length c1] 25)).heap.size = w1.heap.size + 1 := World.size_alloc _ _
 generalize w1.alloc (Obj.cells #[Value.slice A1 l1.length c1] 25) = w2 at *
 have e3 : (w2.alloc (Obj.map #[] 0)).heap[w2.heap.size]? = some (.map #[] 0) := heap_alloc_new w2 _
 have e1 := blk_alloc e1 (Obj.map #[] 0)
 have e2 := blk_alloc e2 (Obj.map #[] 0)
 have b3 := b2.alloc b2.size (Obj.map #[] 0)
 have s3 : (w2.alloc (Obj.map #[] 0)).heap.size = w2.heap.size + 1 := World.size_alloc _ _
 generalize w2.alloc (Obj.map #[] 0) = w3 at *
 have e4 := blk_new w3 (Obj.cells #[Value.map (some (w.heap.size + 1 + 1))] 82)
 have e1 := blk_alloc e1 (Obj.cells #[Value.map (some (w.heap.size + 1 + 1))] 82)
 have e2 := blk_alloc e2 (Obj.cells #[Value.map (some (w.heap.size + 1 + 1))] 82)
 have e3 : (w3.alloc (Obj.cells #[Value.map (some (w.heap.size + 1 + 1))] 82)).heap[w2.heap.size]? = some (.map #[] 0) := (Below.heap_alloc _ _ _ (by omega)).trans e3
 have b4 := b3.alloc b3.size (Obj.cells #[Value.map (some (w.heap.size + 1 + 1))] 82)
 have s4 : (w3.alloc (Obj.cells #[Value.map (some (w.heap.size + 1 + 1))] 82)).heap.size = w3.heap.size + 1 := World.size_alloc _ _
 generalize w3.alloc (Obj.cells #[Value.map (some (w.heap.size + 1 + 1))] 82) = w4 at *
 obtain ⟨o, ho⟩ : ∃ o, (Obj.cells #[Value.func (Fn.func 43) #[] #[Value.pointer (some { block := w.heap.size + 1 + 1 + 1, off := 0 }), Value.pointer (some { block := w.heap.size, off := 0 }), Value.pointer (some { block := w.heap.size + 1, off := 0 }), Value.pointer (some { block := w.heap.size + 1 + 1 + 1 + 1, off := 0 })]] 83) = o := ⟨_, rfl⟩
 rw [ho]
 have e5 : (w4.alloc o).heap[w4.heap.size]? = some o := heap_alloc_new w4 o
 have e1 := blk_alloc e1 o
 have e2 := blk_alloc e2 o
 have e3 : (w4.alloc o).heap[w2.heap.size]? = some (.map #[] 0) := (Below.heap_alloc _ _ _ (by omega)).trans e3
 have e4 := blk_alloc e4 o
 have b5 := b4.alloc b4.size o
 have s5 : (w4.alloc o).heap.size = w4.heap.size + 1 := World.size_alloc _ _
 generalize w4.alloc o = w5 at *
 have t1 : w1.heap.size = w.heap.size + 1 := s1
 have t2 : w2.heap.size = w.heap.size + 1 + 1 := by omega
 have t3 : w3.heap.size = w.heap.size + 1 + 1 + 1 := by omega
 have t4 : w4.heap.size = w.heap.size + 1 + 1 + 1 + 1 := by omega
 rw [t1] at e2
 rw [t2] at e3
 rw [t3] at e4
 rw [t4, ← ho] at e5
 exact ⟨e4, e1, e2, e5, ⟨#[], 0, e3, fun e he => by simp at he⟩, b5, ⟨by omega, by omega, by omega, by omega, by omega, by omega, by omega⟩, by omega⟩
def proof_diff.f (l0 : List ByteArray) (l1 : List ByteArray) : Option (List S42) := if l0.length ≤ 100 ∧ l1.length ≤ 100 then (bestL l0 0 l1).map (·.2) else none
set_option maxHeartbeats 4000000 in
set_option maxRecDepth 100000 in
theorem proof_diff.calls (A0 : Option Addr) (c0 : Nat) (l0 : List ByteArray) (A1 : Option Addr) (c1 : Nat) (l1 : List ByteArray) (r : List (S42)) (w : World) (hr0 : Kd.C Kd.string w A0 l0.length l0) (hc0 : l0.length ≤ c0) (hr1 : Kd.C Kd.string w A1 l1.length l1) (hc1 : l1.length ≤ c1) (h : proof_diff.f l0 l1 = some r) :
  Calls Tryz.prog 23 #[.slice A0 l0.length c0, .slice A1 l1.length c1] w fun e w' => ∃ v0_ : Value, e = .returned (v0_) ∧ Kd.R k42 42 w' w.heap.size (fun _ => True) v0_ r ∧ Below w.heap.size w w' := by
 unfold proof_diff.f at h
 split at h
 case isFalse => cases h
 rename_i hlen
 obtain ⟨r', hr', hrr⟩ := Option.map_eq_some_iff.1 h
 subst hrr
 have HC0 := Aside0.mk hr0
 have HC1 := Aside0.mk hr1
 have HL := Aside0.mk hlen
 have HBEST : Aside0 (bestAt l0 l1 0 0 = some r') := ⟨by unfold bestAt; simpa using hr'⟩
 clear h hr' hr0 hr1 hlen hc0 hc1
 have hmm := @run_makeMap Tryz.prog
 go_enter Tryz.func23, Tryz.ntmps23
 go_upto_region 4 with fail
 obtain ⟨B, hB⟩ : ∃ B, w.heap.size = B := ⟨_, rfl⟩
 obtain ⟨W1, hW1, hS⟩ := diff_start w A0 A1 c0 c1 l0 l1 B hB
 rw [hB, hW1]
 have k1 : W1.cell? ⟨B + 1 + 1 + 1 + 1, 0, none⟩ = some (.func (.func 43) #[] #[.pointer (some ⟨B + 1 + 1 + 1, 0, none⟩), .pointer (some ⟨B, 0, none⟩), .pointer (some ⟨B + 1, 0, none⟩), .pointer (some ⟨B + 1 + 1 + 1 + 1, 0, none⟩)]) := (blk_cell hS.f 0).trans rfl
 have HS := Aside0.mk hS
 have hcall := from_calls (by have := HL.out; omega) (by have := HL.out; omega) (fun W hW => Kd.C_below HC0.out (by rw [hB]; exact hW)) (fun W hW => Kd.C_below HC1.out (by rw [hB]; exact hW)) _ 0 0 0 0 r' W1 rfl (Nat.zero_le _) (Nat.zero_le _) rfl rfl HS.out HBEST.out
 have HCALL := Aside0.mk hcall
 have hu85 := Tryz.underlying85
 clear hcall hW1 hS
 go_wp2_with (go_at_call 43; refine HCALL.out.mono ?_; rintro e w' ⟨v, rfl, hR, hS, hg⟩; obtain ⟨A, c, rfl, hc, _⟩ := Kd.R_reads hR; have hfd := field85 r'.1 A r'.2.length c; have HR := Aside0.mk hR; have HS2 := Aside0.mk hS; clear hR hS hg)
 go_ret
 exact ⟨.slice A r'.2.length c, rfl, by rw [hB]; exact HR.out, by rw [hB]; exact HS2.out.b⟩
end Go.Proofs.YteoknahabkoknaaGreatDoor.P
namespace Go.Proofs.YteoknahabkoknaaGreatDoor.P
open Go.RowKit Go.Proofs.YteoknahabkoknaaGreatDoorW.PrintWords Go.Proofs.YteoknahabkoknaaGreatDoorW.PrintLast Go.Proofs.YteoknahabkoknaaGreatDoorW.PrintMore
attribute [local go_sem] max2_int min2_int max_two min_two max_three min_three max_four min_four   -- for this text's walks alone
set_option linter.unusedVariables false
set_option linter.unusedSimpArgs false
def proof_Diff.f (k : Nat) (l0 : List ByteArray) (l1 : List ByteArray) : Option ((List (S42)) × Int) := (proof_Check.f k l0).bind fun t276 => (if t276 = 0 then ((proof_Check.f k l1).bind fun t277 => (if t277 = 0 then ((proof_diff.f l0 l1).bind fun t278 => (some (t278, 0))) else (some (([] : List (S42)), t277)))) else (some (([] : List (S42)), t276)))
set_option maxHeartbeats 8000000 in
set_option maxRecDepth 100000 in
theorem proof_Diff.calls (k : Nat) (A0 : Option Addr) (c0 : Nat) (l0 : List ByteArray) (A1 : Option Addr) (c1 : Nat) (l1 : List ByteArray) (r1 : List (S42)) (r2 : Int) (w : World) (hr0 : Kd.C Kd.string w A0 l0.length l0) (hc0 : l0.length ≤ c0) (hr1 : Kd.C Kd.string w A1 l1.length l1) (hc1 : l1.length ≤ c1) (h : proof_Diff.f k l0 l1 = some (r1, r2)) :
  Calls Tryz.prog 9 #[.slice A0 l0.length c0, .slice A1 l1.length c1] w fun e w' => ∃ v0_ : Value, e = .returned (.tuple #[v0_, .int .i64 r2]) ∧ Kd.R k42 42 w' w.heap.size (fun _ => True) v0_ r1 ∧ Below w.heap.size w w' := by
 have HR0 := Aside0.mk hr0
 have HC0 := Aside0.mk hc0
 clear hr0 hc0
 have HR1 := Aside0.mk hr1
 have HC1 := Aside0.mk hc1
 clear hr1 hc1
 have HB := Aside0.mk (Below.refl w.heap.size w)
 have H : ((proof_Check.f k l0).bind fun t276 => (if t276 = 0 then ((proof_Check.f k l1).bind fun t277 => (if t277 = 0 then ((proof_diff.f l0 l1).bind fun t278 => (some (t278, 0))) else (some (([] : List (S42)), t277)))) else (some (([] : List (S42)), t276)))) = some (r1, r2) := h
 clear h
 replace H := Option.bind_eq_some_iff.mp H
 obtain ⟨t276, A30, H⟩ := H
 try dsimp only at H
 have A3 := Aside0.mk A30
 clear A30
 by_cases c4 : t276 = 0
 ·rw [if_pos c4] at H
  have c4b0 : (t276 == 0) = true := beq_iff_eq.mpr c4
  have c4b1 : (t276 != 0) = false := bne_eq_false_iff_eq.mpr c4
  clear c4
  replace H := Option.bind_eq_some_iff.mp H
  obtain ⟨t277, A50, H⟩ := H
  try dsimp only at H
  have A5 := Aside0.mk A50
  clear A50
  by_cases c6 : t277 = 0
  ·rw [if_pos c6] at H
   have c6b0 : (t277 == 0) = true := beq_iff_eq.mpr c6
   have c6b1 : (t277 != 0) = false := bne_eq_false_iff_eq.mpr c6
   clear c6
   replace H := Option.bind_eq_some_iff.mp H
   obtain ⟨t278, A70, H⟩ := H
   try dsimp only at H
   have A7 := Aside0.mk A70
   clear A70
   simp only [Option.some.injEq, Prod.mk.injEq] at H
   obtain ⟨rfl, rfl⟩ := H
   go_enter Tryz.func9, Tryz.ntmps9
   go_wp2_with (first | ((with_reducible refine gate_callee (f := 22) rfl ?_); refine goesL_ (some 9) rfl rfl Tryz.func22 (by kernel_rfl) rfl #[.slice A0 l0.length c0] rfl (by (try simp only [List.map_toArray, List.map_cons, List.map_nil]); first | done | rfl | (simp only [List.length_drop, List.length_take]; rfl)) ?_; (with_reducible refine (proof_Check.calls k _ _ l0 t276 _ ?side1 ?side2 A3.out).mono ?_); (case side1 => repeat (first | exact HR0.out | (with_reducible refine Kd.C_alloc ?_ _) | (with_reducible refine Kd.C_drewN ?_ _) | (with_reducible refine Kd.C_drew ?_))); (case side2 => exact HC0.out); rintro e w8 ⟨rfl, hb⟩; refine ⟨_, rfl, ?_⟩; have n0_ := Aside0.mk (below_step (by repeat (first | (with_reducible first | exact HB.out | apply below_alloc | apply pw_below_drewN | apply below_drew1) | exact HB.out)) hb); clear HB; have HB := n0_; clear n0_; (try clear hb); (try clear hb2); (try clear hk); (try clear hi)) | ((with_reducible refine gate_callee (f := 22) rfl ?_); refine goesL_ (some 14) rfl rfl Tryz.func22 (by kernel_rfl) rfl #[.slice A1 l1.length c1] rfl (by (try simp only [List.map_toArray, List.map_cons, List.map_nil]); first | done | rfl | (simp only [List.length_drop, List.length_take]; rfl)) ?_; (with_reducible refine (proof_Check.calls k _ _ l1 t277 _ ?side1 ?side2 A5.out).mono ?_); (case side1 => repeat (first | exact (Kd.C_below HR1.out HB.out) | (with_reducible refine Kd.C_alloc ?_ _) | (with_reducible refine Kd.C_drewN ?_ _) | (with_reducible refine Kd.C_drew ?_))); (case side2 => exact HC1.out); rintro e w9 ⟨rfl, hb⟩; refine ⟨_, rfl, ?_⟩; have n0_ := Aside0.mk (below_step (by repeat (first | (with_reducible first | exact HB.out | apply below_alloc | apply pw_below_drewN | apply below_drew1) | exact HB.out)) hb); clear HB; have HB := n0_; clear n0_; (try clear hb); (try clear hb2); (try clear hk); (try clear hi)) | ((with_reducible refine gate_callee (f := 23) rfl ?_); refine goesL_ (some 20) rfl rfl Tryz.func23 (by kernel_rfl) rfl #[.slice A0 l0.length c0, .slice A1 l1.length c1] rfl (by (try simp only [List.map_toArray, List.map_cons, List.map_nil]); first | done | rfl | (simp only [List.length_drop, List.length_take]; rfl)) ?_; (with_reducible refine (proof_diff.calls _ _ l0 _ _ l1 t278 _ ?side1 ?side2 ?side3 ?side4 A7.out).mono ?_); (case side1 => repeat (first | exact (Kd.C_below HR0.out HB.out) | (with_reducible refine Kd.C_alloc ?_ _) | (with_reducible refine Kd.C_drewN ?_ _) | (with_reducible refine Kd.C_drew ?_))); (case side2 => exact HC0.out); (case side3 => repeat (first | exact (Kd.C_below HR1.out HB.out) | (with_reducible refine Kd.C_alloc ?_ _) | (with_reducible refine Kd.C_drewN ?_ _) | (with_reducible refine Kd.C_drew ?_))); (case side4 => exact HC1.out); rintro e w10 ⟨v279, rfl, ho0, hb⟩; refine ⟨_, rfl, ?_⟩; have n0_ := Aside0.mk (Kd.R_lower ho0 (below_size (by repeat (first | (with_reducible first | exact HB.out | apply below_alloc | apply pw_below_drewN | apply below_drew1) | exact HB.out)))); have n1_ := Aside0.mk (below_step (by repeat (first | (with_reducible first | exact HB.out | apply below_alloc | apply pw_below_drewN | apply below_drew1) | exact HB.out)) hb); clear HB; have HO280 := n0_; have HB := n1_; clear n0_ n1_; (try clear hb); (try clear hb2); (try clear hk); (try clear hi); (try clear ho0)))
   go_ret2
   exact ⟨_, by first | rfl | (simp [errW_none, errW_some] <;> rfl) | (simp [*, errW_none, errW_some] <;> rfl), by (with_reducible repeat (first | apply Kd.R_alloc | apply Kd.R_drewN | apply Kd.R_drew)); exact HO280.out, by repeat (first | (with_reducible first | exact HB.out | apply below_alloc | apply pw_below_drewN | apply below_drew1) | exact HB.out)⟩
  ·rw [if_neg c6] at H
   have c6b0 : (t277 == 0) = false := beq_eq_false_iff_ne.mpr c6
   have c6b1 : (t277 != 0) = true := bne_iff_ne.mpr c6
   simp only [Option.some.injEq, Prod.mk.injEq] at H
   obtain ⟨rfl, rfl⟩ := H
   go_enter Tryz.func9, Tryz.ntmps9
   go_wp2_with (first | ((with_reducible refine gate_callee (f := 22) rfl ?_); refine goesL_ (some 9) rfl rfl Tryz.func22 (by kernel_rfl) rfl #[.slice A0 l0.length c0] rfl (by (try simp only [List.map_toArray, List.map_cons, List.map_nil]); first | done | rfl | (simp only [List.length_drop, List.length_take]; rfl)) ?_; (with_reducible refine (proof_Check.calls k _ _ l0 t276 _ ?side1 ?side2 A3.out).mono ?_); (case side1 => repeat (first | exact HR0.out | (with_reducible refine Kd.C_alloc ?_ _) | (with_reducible refine Kd.C_drewN ?_ _) | (with_reducible refine Kd.C_drew ?_))); (case side2 => exact HC0.out); rintro e w11 ⟨rfl, hb⟩; refine ⟨_, rfl, ?_⟩; have n0_ := Aside0.mk (below_step (by repeat (first | (with_reducible first | exact HB.out | apply below_alloc | apply pw_below_drewN | apply below_drew1) | exact HB.out)) hb); clear HB; have HB := n0_; clear n0_; (try clear hb); (try clear hb2); (try clear hk); (try clear hi)) | ((with_reducible refine gate_callee (f := 22) rfl ?_); refine goesL_ (some 14) rfl rfl Tryz.func22 (by kernel_rfl) rfl #[.slice A1 l1.length c1] rfl (by (try simp only [List.map_toArray, List.map_cons, List.map_nil]); first | done | rfl | (simp only [List.length_drop, List.length_take]; rfl)) ?_; (with_reducible refine (proof_Check.calls k _ _ l1 t277 _ ?side1 ?side2 A5.out).mono ?_); (case side1 => repeat (first | exact (Kd.C_below HR1.out HB.out) | (with_reducible refine Kd.C_alloc ?_ _) | (with_reducible refine Kd.C_drewN ?_ _) | (with_reducible refine Kd.C_drew ?_))); (case side2 => exact HC1.out); rintro e w12 ⟨rfl, hb⟩; refine ⟨_, rfl, ?_⟩; have n0_ := Aside0.mk (below_step (by repeat (first | (with_reducible first | exact HB.out | apply below_alloc | apply pw_below_drewN | apply below_drew1) | exact HB.out)) hb); clear HB; have HB := n0_; clear n0_; (try clear hb); (try clear hb2); (try clear hk); (try clear hi)))
   go_ret2
   exact ⟨_, by first | rfl | (simp [errW_none, errW_some] <;> rfl) | (simp [*, errW_none, errW_some] <;> rfl), by first | exact Kd.R_nil _ _ _ _ _ | exact Kd.N_nil _ _ _ _ _ | exact Kd.V_nil _ _ _ _ _ | exact Kd.Q_nil _ _ _ _ _ | exact Kd.S_nil _ _ _ _ _, by repeat (first | (with_reducible first | exact HB.out | apply below_alloc | apply pw_below_drewN | apply below_drew1) | exact HB.out)⟩
 ·rw [if_neg c4] at H
  have c4b0 : (t276 == 0) = false := beq_eq_false_iff_ne.mpr c4
  have c4b1 : (t276 != 0) = true := bne_iff_ne.mpr c4
  simp only [Option.some.injEq, Prod.mk.injEq] at H
  obtain ⟨rfl, rfl⟩ := H
  go_enter Tryz.func9, Tryz.ntmps9
  go_wp2_with (first | ((with_reducible refine gate_callee (f := 22) rfl ?_); refine goesL_ (some 9) rfl rfl Tryz.func22 (by kernel_rfl) rfl #[.slice A0 l0.length c0] rfl (by (try simp only [List.map_toArray, List.map_cons, List.map_nil]); first | done | rfl | (simp only [List.length_drop, List.length_take]; rfl)) ?_; (with_reducible refine (proof_Check.calls k _ _ l0 t276 _ ?side1 ?side2 A3.out).mono ?_); (case side1 => repeat (first | exact HR0.out | (with_reducible refine Kd.C_alloc ?_ _) | (with_reducible refine Kd.C_drewN ?_ _) | (with_reducible refine Kd.C_drew ?_))); (case side2 => exact HC0.out); rintro e w13 ⟨rfl, hb⟩; refine ⟨_, rfl, ?_⟩; have n0_ := Aside0.mk (below_step (by repeat (first | (with_reducible first | exact HB.out | apply below_alloc | apply pw_below_drewN | apply below_drew1) | exact HB.out)) hb); clear HB; have HB := n0_; clear n0_; (try clear hb); (try clear hb2); (try clear hk); (try clear hi)))
  go_ret2
  exact ⟨_, by first | rfl | (simp [errW_none, errW_some] <;> rfl) | (simp [*, errW_none, errW_some] <;> rfl), by first | exact Kd.R_nil _ _ _ _ _ | exact Kd.N_nil _ _ _ _ _ | exact Kd.V_nil _ _ _ _ _ | exact Kd.Q_nil _ _ _ _ _ | exact Kd.S_nil _ _ _ _ _, by repeat (first | (with_reducible first | exact HB.out | apply below_alloc | apply pw_below_drewN | apply below_drew1) | exact HB.out)⟩
def proof_yearsError.l0 : Nat → List (List ByteArray) → Int → Int → Option (Int)
 | 0, _, _, _ => none
 | k + 1, x9, x10, x11 => if x11 < x10 then (if 0 ≤ x11 then (if x11 < (x9.length : Int) then ((proof_Check.f k (rd_L7 x9 x11)).bind fun t282 => (if t282 = 0 then (proof_yearsError.l0 k x9 x10 (wrap64 (x11 + 1))) else (some t282))) else (none)) else (none)) else (some 0)
def proof_yearsError.f (k : Nat) (l0 : List (List ByteArray)) : Option (Int) := if (l0.length : Int) > 4 then (some 6) else (proof_yearsError.l0 k l0 (l0.length : Int) 0)
set_option maxHeartbeats 8000000 in
set_option maxRecDepth 100000 in
theorem proof_yearsError.calls (k : Nat) (A0 : Option Addr) (c0 : Nat) (l0 : List (List ByteArray)) (r : Int) (w : World) (hr0 : Kd.C (Kd.slice 9 Kd.string) w A0 l0.length l0) (hc0 : l0.length ≤ c0) (h : proof_yearsError.f k l0 = some r) :
  Calls Tryz.prog 33 #[.slice A0 l0.length c0] w fun e w' => e = .returned (.int .i64 r) ∧ Below w.heap.size w w' := by
 have HR0 := Aside0.mk hr0
 have HC0 := Aside0.mk hc0
 clear hr0 hc0
 have HB := Aside0.mk (Below.refl w.heap.size w)
 have H : (if (l0.length : Int) > 4 then (some 6) else (proof_yearsError.l0 k l0 (l0.length : Int) 0)) = some r := h
 clear h
 by_cases c2 : (l0.length : Int) > 4
 ·rw [if_pos c2] at H
  have c2b0 : decide (4 < (l0.length : Int)) = true := decide_eq_true c2
  have c2b1 : decide (4 < l0.length) = true := decide_eq_true (by omega)
  clear c2
  obtain rfl := Option.some.inj H
  go_enter Tryz.func33, Tryz.ntmps33
  go_wp2
  go_ret
  exact ⟨by first | rfl | (simp [errW_none, errW_some] <;> rfl) | (simp [*, errW_none, errW_some] <;> rfl), by repeat (first | (with_reducible first | exact HB.out | apply below_alloc | apply pw_below_drewN | apply below_drew1) | exact HB.out)⟩
 ·rw [if_neg c2] at H
  have c2b0 : decide (4 < (l0.length : Int)) = false := decide_eq_false c2
  have c2b1 : decide (4 < l0.length) = false := decide_eq_false (by omega)
  clear c2
  have H' := Aside0.mk H
  clear H
  go_enter Tryz.func33, Tryz.ntmps33
  go_wp2
  go_loopg [11] k (fun kq v11 w' => ∃ (x11_1 : Int), v11 = .int .i64 x11_1 ∧ Aside0 (proof_yearsError.l0 kq l0 (l0.length : Int) x11_1 = some r) ∧ Aside0 (kq ≤ k) ∧ Aside0 (Below w.heap.size w w'))
  case atStart => exact ⟨(0), (by first | rfl | (simp; done) | (simp [*]; done)), H', ⟨Nat.le_refl _⟩, ⟨by repeat (first | (with_reducible first | exact HB.out | apply below_alloc | apply pw_below_drewN | apply below_drew1) | exact HB.out)⟩⟩
  case round =>
   clear H'
   try clear c2
   try clear c2b0
   try clear c2b1
   try clear p2
   obtain ⟨x11_1, rfl, HA, HK1, HB⟩ := hrel
   cases gk with
   | zero => exact absurd HA.out (by simp [proof_yearsError.l0])
   | succ k1 =>
    have H := HA.out
    clear HA
    simp only [proof_yearsError.l0] at H
    by_cases c3 : x11_1 < (l0.length : Int)
    ·rw [if_pos c3] at H
     have c3b0 : decide (x11_1 < (l0.length : Int)) = true := decide_eq_true c3
     clear c3
     by_cases c4 : 0 ≤ x11_1
     ·rw [if_pos c4] at H
      have c4b0 : decide (0 ≤ x11_1) = true := decide_eq_true c4
      clear c4
      by_cases c5 : x11_1 < (l0.length : Int)
      ·rw [if_pos c5] at H
       have c5b0 : decide (x11_1 < (l0.length : Int)) = true := decide_eq_true c5
       clear c5
       replace H := Option.bind_eq_some_iff.mp H
       obtain ⟨t282, A60, H⟩ := H
       try dsimp only at H
       have A6 := Aside0.mk A60
       clear A60
       by_cases c7 : t282 = 0
       ·rw [if_pos c7] at H
        have c7b0 : (t282 == 0) = true := beq_iff_eq.mpr c7
        have c7b1 : (t282 != 0) = false := bne_eq_false_iff_eq.mpr c7
        clear c7
        have H' := Aside0.mk H
        clear H
        have p281 : 0 ≤ (x11_1 : Int) := of_decide_eq_true (by first | (with_reducible assumption) | assumption)
        have q281 : x11_1 < (l0.length : Int) := of_decide_eq_true (by first | (with_reducible assumption) | assumption)
        obtain ⟨ad281, A281_0, c281_0, e281, hx281_0, hl281_0, hi281_0⟩ := at_L7 HR0.out x11_1 p281 q281
        cases e281
        replace hx281_0 := (HB.out.cell (World.block_lt_of_cell? w _ hx281_0)).trans hx281_0
        have HR281_0 := Aside0.mk hi281_0
        have HC281_0 := Aside0.mk hl281_0
        clear hi281_0 hl281_0
        replace p281 := eq_true p281
        replace q281 := eq_true q281
        go_wp2_with (first | ((with_reducible refine gate_callee (f := 22) rfl ?_); refine goesL_ (some 16) rfl rfl Tryz.func22 (by kernel_rfl) rfl #[.slice A281_0 (rd_L7 l0 x11_1).length c281_0] rfl (by (try simp only [List.map_toArray, List.map_cons, List.map_nil]); first | done | rfl | (simp only [List.length_drop, List.length_take]; rfl)) ?_; (with_reducible refine (proof_Check.calls k1 _ _ (rd_L7 l0 x11_1) t282 _ ?side1 ?side2 A6.out).mono ?_); (case side1 => repeat (first | exact (Kd.C_below HR281_0.out HB.out) | (with_reducible refine Kd.C_alloc ?_ _) | (with_reducible refine Kd.C_drewN ?_ _) | (with_reducible refine Kd.C_drew ?_))); (case side2 => exact HC281_0.out); rintro e w8 ⟨rfl, hb⟩; refine ⟨_, rfl, ?_⟩; have n0_ := Aside0.mk (below_step (by repeat (first | (with_reducible first | exact HB.out | apply below_alloc | apply pw_below_drewN | apply below_drew1) | exact HB.out)) hb); clear HB; have HB := n0_; clear n0_; (try clear hb); (try clear hb2); (try clear hk); (try clear hi)))
        go_roundg k1
        case measure => have := HK1.out; omega
        case rel => exact ⟨(wrap64 (x11_1 + 1)), (by first | rfl | (simp; done) | (simp [*]; done)), H', ⟨by have := HK1.out; omega⟩, ⟨by repeat (first | (with_reducible first | exact HB.out | apply below_alloc | apply pw_below_drewN | apply below_drew1) | exact HB.out)⟩⟩
       ·rw [if_neg c7] at H
        have c7b0 : (t282 == 0) = false := beq_eq_false_iff_ne.mpr c7
        have c7b1 : (t282 != 0) = true := bne_iff_ne.mpr c7
        obtain rfl := Option.some.inj H
        have p281 : 0 ≤ (x11_1 : Int) := of_decide_eq_true (by first | (with_reducible assumption) | assumption)
        have q281 : x11_1 < (l0.length : Int) := of_decide_eq_true (by first | (with_reducible assumption) | assumption)
        obtain ⟨ad281, A281_0, c281_0, e281, hx281_0, hl281_0, hi281_0⟩ := at_L7 HR0.out x11_1 p281 q281
        cases e281
        replace hx281_0 := (HB.out.cell (World.block_lt_of_cell? w _ hx281_0)).trans hx281_0
        have HR281_0 := Aside0.mk hi281_0
        have HC281_0 := Aside0.mk hl281_0
        clear hi281_0 hl281_0
        replace p281 := eq_true p281
        replace q281 := eq_true q281
        go_wp2_with (first | ((with_reducible refine gate_callee (f := 22) rfl ?_); refine goesL_ (some 16) rfl rfl Tryz.func22 (by kernel_rfl) rfl #[.slice A281_0 (rd_L7 l0 x11_1).length c281_0] rfl (by (try simp only [List.map_toArray, List.map_cons, List.map_nil]); first | done | rfl | (simp only [List.length_drop, List.length_take]; rfl)) ?_; (with_reducible refine (proof_Check.calls k1 _ _ (rd_L7 l0 x11_1) t282 _ ?side1 ?side2 A6.out).mono ?_); (case side1 => repeat (first | exact (Kd.C_below HR281_0.out HB.out) | (with_reducible refine Kd.C_alloc ?_ _) | (with_reducible refine Kd.C_drewN ?_ _) | (with_reducible refine Kd.C_drew ?_))); (case side2 => exact HC281_0.out); rintro e w9 ⟨rfl, hb⟩; refine ⟨_, rfl, ?_⟩; have n0_ := Aside0.mk (below_step (by repeat (first | (with_reducible first | exact HB.out | apply below_alloc | apply pw_below_drewN | apply below_drew1) | exact HB.out)) hb); clear HB; have HB := n0_; clear n0_; (try clear hb); (try clear hb2); (try clear hk); (try clear hi)))
        go_ret
        exact ⟨by first | rfl | (simp [errW_none, errW_some] <;> rfl) | (simp [*, errW_none, errW_some] <;> rfl), by repeat (first | (with_reducible first | exact HB.out | apply below_alloc | apply pw_below_drewN | apply below_drew1) | exact HB.out)⟩
      ·rw [if_neg c5] at H
       exact absurd H (by simp)
     ·rw [if_neg c4] at H
      exact absurd H (by simp)
    ·rw [if_neg c3] at H
     have c3b0 : decide (x11_1 < (l0.length : Int)) = false := decide_eq_false c3
     clear c3
     obtain rfl := Option.some.inj H
     go_wp2
     go_ret
     exact ⟨by first | rfl | (simp [errW_none, errW_some] <;> rfl) | (simp [*, errW_none, errW_some] <;> rfl), by repeat (first | (with_reducible first | exact HB.out | apply below_alloc | apply pw_below_drewN | apply below_drew1) | exact HB.out)⟩
def proof_textError.f (a0_0 : Int) (a0_1 : Int) (a0_2 : ByteArray) : Option (Int) := if a0_0 = 3 then (if a0_2.toList = ([] : List UInt8) then (some 0) else (some 2)) else ((proof_lineError.f a0_2).bind fun t284 => (some t284))
set_option maxHeartbeats 8000000 in
set_option maxRecDepth 100000 in
theorem proof_textError.calls (a0_0 : Int) (a0_1 : Int) (a0_2 : ByteArray) (r : Int) (w : World) (h : proof_textError.f a0_0 a0_1 a0_2 = some r) :
  Calls Tryz.prog 64 #[.agg #[.int .i64 a0_0, .int .i64 a0_1, .string a0_2]] w fun e w' => e = .returned (.int .i64 r) ∧ Below w.heap.size w w' := by
 have hu42 := Tryz.underlying42
 have HB := Aside0.mk (Below.refl w.heap.size w)
 have H : (if a0_0 = 3 then (if a0_2.toList = ([] : List UInt8) then (some 0) else (some 2)) else ((proof_lineError.f a0_2).bind fun t284 => (some t284))) = some r := h
 clear h
 by_cases c2 : a0_0 = 3
 ·rw [if_pos c2] at H
  have c2b0 : (a0_0 == 3) = true := beq_iff_eq.mpr c2
  have c2b1 : (a0_0 != 3) = false := bne_eq_false_iff_eq.mpr c2
  clear c2
  by_cases c3 : a0_2.toList = ([] : List UInt8)
  ·rw [if_pos c3] at H
   have c3b0 : (a0_2.toList == ([] : List UInt8)) = true := beq_iff_eq.mpr c3
   have c3b1 : (a0_2.toList != ([] : List UInt8)) = false := bne_eq_false_iff_eq.mpr c3
   clear c3
   obtain rfl := Option.some.inj H
   go_enter Tryz.func64, Tryz.ntmps64
   go_wp2_with (first | ((with_reducible refine gate_dst (N := 1) rfl ?_); refine box_event ?hg (N := 1) ?hd (cs := #[.int .i64 a0_0, .int .i64 a0_1, .string a0_2]) (t := 42) ?hr ?_; (case hd => rfl); (case hg => rfl); (case hr => first | (go_simp; done) | (go_simp; rfl)); intro gb283 hg w4 hbox hb; have n0_ := Aside0.mk (below_step (by repeat (first | (with_reducible first | exact HB.out | apply below_alloc | apply pw_below_drewN | apply below_drew1) | exact HB.out)) hb); have n1_ := Aside0.mk (hbox); have n2_ := Aside0.mk ((by rw [hg]; exact (below_size (by repeat (first | (with_reducible first | exact HB.out | apply below_alloc | apply pw_below_drewN | apply below_drew1) | exact HB.out))) : w.heap.size ≤ gb283)); have n3_ := n2_; clear HB; have HB := n0_; have BK283 := n1_; have GW283 := n2_; have GE283 := n3_; clear n0_ n1_ n2_ n3_; clear hb hbox hg; have hcz5_0 : w4.cell? ⟨gb283, 0, none⟩ = some (.int .i64 a0_0) := (blk_cell BK283.out 0).trans rfl; have hcz5_1 : w4.cell? ⟨gb283, 1, none⟩ = some (.int .i64 a0_1) := (blk_cell BK283.out 1).trans rfl; have hcz5_2 : w4.cell? ⟨gb283, 2, none⟩ = some (.string a0_2) := (blk_cell BK283.out 2).trans rfl; have hfz5_0 := blk_frozen BK283.out 0; have hfz5_1 := blk_frozen BK283.out 1; have hfz5_2 := blk_frozen BK283.out 2))
   go_ret
   exact ⟨by first | rfl | (simp [errW_none, errW_some] <;> rfl) | (simp [*, errW_none, errW_some] <;> rfl), by repeat (first | (with_reducible first | exact HB.out | apply below_alloc | apply pw_below_drewN | apply below_drew1 | refine below_set ?_ GE283.out) | exact HB.out)⟩
  ·rw [if_neg c3] at H
   have c3b0 : (a0_2.toList == ([] : List UInt8)) = false := beq_eq_false_iff_ne.mpr c3
   have c3b1 : (a0_2.toList != ([] : List UInt8)) = true := bne_iff_ne.mpr c3
   obtain rfl := Option.some.inj H
   go_enter Tryz.func64, Tryz.ntmps64
   go_wp2_with (first | ((with_reducible refine gate_dst (N := 1) rfl ?_); refine box_event ?hg (N := 1) ?hd (cs := #[.int .i64 a0_0, .int .i64 a0_1, .string a0_2]) (t := 42) ?hr ?_; (case hd => rfl); (case hg => rfl); (case hr => first | (go_simp; done) | (go_simp; rfl)); intro gb283 hg w6 hbox hb; have n0_ := Aside0.mk (below_step (by repeat (first | (with_reducible first | exact HB.out | apply below_alloc | apply pw_below_drewN | apply below_drew1) | exact HB.out)) hb); have n1_ := Aside0.mk (hbox); have n2_ := Aside0.mk ((by rw [hg]; exact (below_size (by repeat (first | (with_reducible first | exact HB.out | apply below_alloc | apply pw_below_drewN | apply below_drew1) | exact HB.out))) : w.heap.size ≤ gb283)); have n3_ := n2_; clear HB; have HB := n0_; have BK283 := n1_; have GW283 := n2_; have GE283 := n3_; clear n0_ n1_ n2_ n3_; clear hb hbox hg; have hcz7_0 : w6.cell? ⟨gb283, 0, none⟩ = some (.int .i64 a0_0) := (blk_cell BK283.out 0).trans rfl; have hcz7_1 : w6.cell? ⟨gb283, 1, none⟩ = some (.int .i64 a0_1) := (blk_cell BK283.out 1).trans rfl; have hcz7_2 : w6.cell? ⟨gb283, 2, none⟩ = some (.string a0_2) := (blk_cell BK283.out 2).trans rfl; have hfz7_0 := blk_frozen BK283.out 0; have hfz7_1 := blk_frozen BK283.out 1; have hfz7_2 := blk_frozen BK283.out 2))
   go_ret
   exact ⟨by first | rfl | (simp [errW_none, errW_some] <;> rfl) | (simp [*, errW_none, errW_some] <;> rfl), by repeat (first | (with_reducible first | exact HB.out | apply below_alloc | apply pw_below_drewN | apply below_drew1 | refine below_set ?_ GE283.out) | exact HB.out)⟩
 ·rw [if_neg c2] at H
  have c2b0 : (a0_0 == 3) = false := beq_eq_false_iff_ne.mpr c2
  have c2b1 : (a0_0 != 3) = true := bne_iff_ne.mpr c2
  replace H := Option.bind_eq_some_iff.mp H
  obtain ⟨t284, A80, H⟩ := H
  try dsimp only at H
  have A8 := Aside0.mk A80
  clear A80
  obtain rfl := Option.some.inj H
  go_enter Tryz.func64, Tryz.ntmps64
  go_wp2_with (first | ((with_reducible refine gate_dst (N := 1) rfl ?_); refine box_event ?hg (N := 1) ?hd (cs := #[.int .i64 a0_0, .int .i64 a0_1, .string a0_2]) (t := 42) ?hr ?_; (case hd => rfl); (case hg => rfl); (case hr => first | (go_simp; done) | (go_simp; rfl)); intro gb283 hg w9 hbox hb; have n0_ := Aside0.mk (below_step (by repeat (first | (with_reducible first | exact HB.out | apply below_alloc | apply pw_below_drewN | apply below_drew1) | exact HB.out)) hb); have n1_ := Aside0.mk (hbox); have n2_ := Aside0.mk ((by rw [hg]; exact (below_size (by repeat (first | (with_reducible first | exact HB.out | apply below_alloc | apply pw_below_drewN | apply below_drew1) | exact HB.out))) : w.heap.size ≤ gb283)); have n3_ := n2_; clear HB; have HB := n0_; have BK283 := n1_; have GW283 := n2_; have GE283 := n3_; clear n0_ n1_ n2_ n3_; clear hb hbox hg; have hcz10_0 : w9.cell? ⟨gb283, 0, none⟩ = some (.int .i64 a0_0) := (blk_cell BK283.out 0).trans rfl; have hcz10_1 : w9.cell? ⟨gb283, 1, none⟩ = some (.int .i64 a0_1) := (blk_cell BK283.out 1).trans rfl; have hcz10_2 : w9.cell? ⟨gb283, 2, none⟩ = some (.string a0_2) := (blk_cell BK283.out 2).trans rfl; have hfz10_0 := blk_frozen BK283.out 0; have hfz10_1 := blk_frozen BK283.out 1; have hfz10_2 := blk_frozen BK283.out 2) | ((with_reducible refine gate_callee (f := 42) rfl ?_); refine goesL_ (some 8) rfl rfl Tryz.func42 (by kernel_rfl) rfl #[.string a0_2] rfl (by (try simp only [List.map_toArray, List.map_cons, List.map_nil]); first | done | rfl | (simp only [List.length_drop, List.length_take]; rfl)) ?_; (with_reducible refine (proof_lineError.calls a0_2 t284 _ A8.out).mono ?_); rintro e w11 ⟨rfl, hb⟩; refine ⟨_, rfl, ?_⟩; have n0_ := Aside0.mk (blk_below (g := gb283) (o := .cells #[.int .i64 a0_0, .int .i64 a0_1, .string a0_2] 42 (0, 0)) (by (with_reducible repeat (first | refine blk_drewN ?_ _ | refine blk_drew ?_ | refine blk_alloc ?_ _)); exact BK283.out) hb); have n1_ := Aside0.mk (below_step (by repeat (first | (with_reducible first | exact HB.out | apply below_alloc | apply pw_below_drewN | apply below_drew1 | refine below_set ?_ GE283.out) | exact HB.out)) hb); clear BK283; clear HB; have BK283 := n0_; have HB := n1_; clear n0_ n1_; (try clear hb); (try clear hb2); (try clear hk); (try clear hi)))
  go_ret
  exact ⟨by first | rfl | (simp [errW_none, errW_some] <;> rfl) | (simp [*, errW_none, errW_some] <;> rfl), by repeat (first | (with_reducible first | exact HB.out | apply below_alloc | apply pw_below_drewN | apply below_drew1 | refine below_set ?_ GE283.out) | exact HB.out)⟩

mutual
def proof_marksError.l0 : Nat → List ByteArray → List (S42) → List (S42) → Int → Int → Option (Int)
 | 0, _, _, _, _, _ => none
 | k + 1, x0, x1, x13, x14, x15 => if x15 < x14 then (if 0 ≤ x15 then (if x15 < (x13.length : Int) then (if ((rd_T42 x13 x15).f0) < 1 then (proof_marksError.j1 k x0 x1 x15 x13 x14 x15 true ((rd_T42 x13 x15).f0) ((rd_T42 x13 x15).f1) ((rd_T42 x13 x15).f2)) else (proof_marksError.j1 k x0 x1 x15 x13 x14 x15 (decide (((rd_T42 x13 x15).f0) > 3)) ((rd_T42 x13 x15).f0) ((rd_T42 x13 x15).f1) ((rd_T42 x13 x15).f2))) else (none)) else (none)) else (some 0)
def proof_marksError.j1 : Nat → List ByteArray → List (S42) → Int → List (S42) → Int → Int → Bool → Int → Int → ByteArray → Option (Int)
 | 0, _, _, _, _, _, _, _, _, _, _ => none
 | k + 1, x0, x1, x5, x13, x14, x15, x27, x287000, x287001, x287002 => if x27 = true then (some 8) else (if x287000 = 1 then (proof_marksError.j2 k x0 x1 x5 (wrap64 ((wrap64 ((x0.length : Int) - 1)) + 1)) x13 x14 x15 x287000 x287001 x287002) else (proof_marksError.j2 k x0 x1 x5 (wrap64 ((x0.length : Int) - 1)) x13 x14 x15 x287000 x287001 x287002))
def proof_marksError.j2 : Nat → List ByteArray → List (S42) → Int → Int → List (S42) → Int → Int → Int → Int → ByteArray → Option (Int)
 | 0, _, _, _, _, _, _, _, _, _, _ => none
 | k + 1, x0, x1, x5, x7, x13, x14, x15, x287000, x287001, x287002 => if x287001 < 0 then (proof_marksError.j3 k x0 x1 x5 x13 x14 x15 true x287000 x287001 x287002) else (proof_marksError.j3 k x0 x1 x5 x13 x14 x15 (decide (x287001 > x7)) x287000 x287001 x287002)
def proof_marksError.j3 : Nat → List ByteArray → List (S42) → Int → List (S42) → Int → Int → Bool → Int → Int → ByteArray → Option (Int)
 | 0, _, _, _, _, _, _, _, _, _, _ => none
 | k + 1, x0, x1, x5, x13, x14, x15, x44, x287000, x287001, x287002 => if x44 = true then (some 3) else ((proof_textError.f x287000 x287001 x287002).bind fun t287 => (if t287 = 0 then (if x5 = 0 then (proof_marksError.l0 k x0 x1 x13 x14 (wrap64 (x15 + 1))) else (if 0 ≤ (wrap64 (x5 - 1)) then (if (wrap64 (x5 - 1)) < (x1.length : Int) then (if x287001 < ((rd_T42 x1 (wrap64 (x5 - 1))).f1) then (some 5) else (if x287001 > ((rd_T42 x1 (wrap64 (x5 - 1))).f1) then (proof_marksError.j4 k x0 x1 x13 x14 x15 true x287000 x287001 x287002) else (proof_marksError.j4 k x0 x1 x13 x14 x15 (((rd_T42 x1 (wrap64 (x5 - 1))).f0) == 1) x287000 x287001 x287002))) else (none)) else (none))) else (some t287)))
def proof_marksError.j4 : Nat → List ByteArray → List (S42) → List (S42) → Int → Int → Bool → Int → Int → ByteArray → Option (Int)
 | 0, _, _, _, _, _, _, _, _, _ => none
 | k + 1, x0, x1, x13, x14, x15, x63, x287000, x287001, x287002 => if x63 = true then (proof_marksError.l0 k x0 x1 x13 x14 (wrap64 (x15 + 1))) else (if x287000 = 1 then (some 5) else (some 4))
end
def proof_marksError.f (k : Nat) (l0 : List ByteArray) (l1 : List (S42)) : Option (Int) := if (l1.length : Int) > 12 then (some 6) else (proof_marksError.l0 k l0 l1 l1 (l1.length : Int) 0)
set_option maxHeartbeats 8000000 in
set_option maxRecDepth 100000 in
theorem proof_marksError.calls (k : Nat) (A0 : Option Addr) (c0 : Nat) (l0 : List ByteArray) (A1 : Option Addr) (c1 : Nat) (l1 : List (S42)) (r : Int) (w : World) (hr0 : Kd.C Kd.string w A0 l0.length l0) (hc0 : l0.length ≤ c0) (hr1 : Kd.C k42 w A1 l1.length l1) (hc1 : l1.length ≤ c1) (h : proof_marksError.f k l0 l1 = some r) (hl : l1.length ≤ 1) :
  Calls Tryz.prog 47 #[.slice A0 l0.length c0, .slice A1 l1.length c1] w fun e w' => e = .returned (.int .i64 r) ∧ Below w.heap.size w w' := by
 have hu42 := Tryz.underlying42
 have HR0 := Aside0.mk hr0
 have HC0 := Aside0.mk hc0
 clear hr0 hc0
 have HR1 := Aside0.mk hr1
 have HC1 := Aside0.mk hc1
 clear hr1 hc1
 have HB := Aside0.mk (Below.refl w.heap.size w)
 have H : (if (l1.length : Int) > 12 then (some 6) else (proof_marksError.l0 k l0 l1 l1 (l1.length : Int) 0)) = some r := h
 clear h
 by_cases c3 : (l1.length : Int) > 12
 ·rw [if_pos c3] at H
  have c3b0 : decide (12 < (l1.length : Int)) = true := decide_eq_true c3
  have c3b1 : decide (12 < l1.length) = true := decide_eq_true (by omega)
  clear c3
  obtain rfl := Option.some.inj H
  go_enter Tryz.func47, Tryz.ntmps47
  go_wp2
  go_ret
  exact ⟨by first | rfl | (simp [errW_none, errW_some] <;> rfl) | (simp [*, errW_none, errW_some] <;> rfl), by repeat (first | (with_reducible first | exact HB.out | apply below_alloc | apply pw_below_drewN | apply below_drew1) | exact HB.out)⟩
 ·rw [if_neg c3] at H
  have c3b0 : decide (12 < (l1.length : Int)) = false := decide_eq_false c3
  have c3b1 : decide (12 < l1.length) = false := decide_eq_false (by omega)
  clear c3
  have H' := Aside0.mk H
  clear H
  go_enter Tryz.func47, Tryz.ntmps47
  go_wp2
  go_loopg [15] k (fun kq v15 w' => ∃ (x15_1 : Int), v15 = .int .i64 x15_1 ∧ Aside0 (proof_marksError.l0 kq l0 l1 l1 (l1.length : Int) x15_1 = some r) ∧ Aside0 (kq ≤ k) ∧ Aside0 (Below w.heap.size w w'))
  case atStart => exact ⟨(0), (by first | rfl | (simp; done) | (simp [*]; done)), H', ⟨Nat.le_refl _⟩, ⟨by repeat (first | (with_reducible first | exact HB.out | apply below_alloc | apply pw_below_drewN | apply below_drew1) | exact HB.out)⟩⟩
  case round =>
   clear H'
   try clear c1
   try clear p2
   try clear c3
   try clear c3b0
   try clear c3b1
   obtain ⟨x15_1, rfl, HA, HK1, HB⟩ := hrel
   cases gk with
   | zero => exact absurd HA.out (by simp [proof_marksError.l0])
   | succ k1 =>
    have H := HA.out
    clear HA
    simp only [proof_marksError.l0] at H
    by_cases c4 : x15_1 < (l1.length : Int)
    ·rw [if_pos c4] at H
     have c4b0 : decide (x15_1 < (l1.length : Int)) = true := decide_eq_true c4
     clear c4
     by_cases c5 : 0 ≤ x15_1
     ·rw [if_pos c5] at H
      have c5b0 : decide (0 ≤ x15_1) = true := decide_eq_true c5
      clear c5
      by_cases c6 : x15_1 < (l1.length : Int)
      ·rw [if_pos c6] at H
       have c6b0 : decide (x15_1 < (l1.length : Int)) = true := decide_eq_true c6
       have hx0_ : Aside0 (x15_1 = 0) := ⟨by have h1 := of_decide_eq_true c5b0; have h2 := of_decide_eq_true c6b0; omega⟩
       clear c6
       have HC7 := Aside0.mk H
       clear H
       have p285 : 0 ≤ (x15_1 : Int) := of_decide_eq_true (by first | (with_reducible assumption) | assumption)
       have q285 : x15_1 < (l1.length : Int) := of_decide_eq_true (by first | (with_reducible assumption) | assumption)
       obtain ⟨ad285, e285, hx285_0, hx285_1, hx285_2⟩ := at_T42 HR1.out x15_1 p285 q285
       cases e285
       replace hx285_0 := (HB.out.cell (World.block_lt_of_cell? w _ hx285_0)).trans hx285_0
       replace hx285_1 := (HB.out.cell (World.block_lt_of_cell? w _ hx285_1)).trans hx285_1
       replace hx285_2 := (HB.out.cell (World.block_lt_of_cell? w _ hx285_2)).trans hx285_2
       replace p285 := eq_true p285
       replace q285 := eq_true q285
       go_upto_region 6 with (first | ((with_reducible refine gate_dst (N := 6) rfl ?_); refine box_event ?hg (N := 6) ?hd (cs := #[.int .i64 0, .int .i64 0, .string (⟨#[]⟩ : ByteArray)]) (t := 42) ?hr ?_; (case hd => rfl); (case hg => rfl); (case hr => first | (go_simp; done) | (go_simp; rfl)); intro gb286 hg w8 hbox hb; have n0_ := Aside0.mk (below_step (by repeat (first | (with_reducible first | exact HB.out | apply below_alloc | apply pw_below_drewN | apply below_drew1) | exact HB.out)) hb); have n1_ := Aside0.mk (hbox); have n2_ := Aside0.mk ((by rw [hg]; exact (below_size (by repeat (first | (with_reducible first | exact HB.out | apply below_alloc | apply pw_below_drewN | apply below_drew1) | exact HB.out))) : w.heap.size ≤ gb286)); have n3_ := n2_; clear HB; have HB := n0_; have BK286 := n1_; have GW286 := n2_; have GE286 := n3_; clear n0_ n1_ n2_ n3_; clear hb hbox hg; have hcz9_0 : w8.cell? ⟨gb286, 0, none⟩ = some (.int .i64 0) := (blk_cell BK286.out 0).trans rfl; have hcz9_1 : w8.cell? ⟨gb286, 1, none⟩ = some (.int .i64 0) := (blk_cell BK286.out 1).trans rfl; have hcz9_2 : w8.cell? ⟨gb286, 2, none⟩ = some (.string (⟨#[]⟩ : ByteArray)) := (blk_cell BK286.out 2).trans rfl; have hfz9_0 := blk_frozen BK286.out 0; have hfz9_1 := blk_frozen BK286.out 1; have hfz9_2 := blk_frozen BK286.out 2))
       (try simp only [Act.put, List.setIfInBounds_toArray, List.set_cons_zero, List.set_cons_succ])
       go_cut [27] (fun v27 wc => ∃ (kq : Nat) (x27_6 : Bool), v27 = .bool x27_6 ∧ Aside0 (proof_marksError.j1 kq l0 l1 x15_1 l1 (l1.length : Int) x15_1 x27_6 ((rd_T42 l1 x15_1).f0) ((rd_T42 l1 x15_1).f1) ((rd_T42 l1 x15_1).f2) = some r) ∧ Aside0 (kq ≤ k1) ∧ Aside0 (wc.heap[gb286]? = some (.cells #[.int .i64 ((rd_T42 l1 x15_1).f0), .int .i64 ((rd_T42 l1 x15_1).f1), .string ((rd_T42 l1 x15_1).f2)] 42 (0, 0))) ∧ Aside0 (Below w.heap.size w wc))
       case first =>
        have H := HC7.out
        clear HC7
        by_cases c10 : ((rd_T42 l1 x15_1).f0) < 1
        ·rw [if_pos c10] at H
         have c10b0 : decide (((rd_T42 l1 x15_1).f0) < 1) = true := decide_eq_true c10
         clear c10
         (first | rw [c10b0] | (simp only [i64_w, i32_w]; rw [c10b0]) | skip)
         have H' := Aside0.mk H
         clear H
         have hcz11_0 : w8.cell? ⟨gb286, 0, none⟩ = some (.int .i64 0) := (blk_cell BK286.out 0).trans rfl
         have hcz11_1 : w8.cell? ⟨gb286, 1, none⟩ = some (.int .i64 0) := (blk_cell BK286.out 1).trans rfl
         have hcz11_2 : w8.cell? ⟨gb286, 2, none⟩ = some (.string (⟨#[]⟩ : ByteArray)) := (blk_cell BK286.out 2).trans rfl
         have hfz11_0 := blk_frozen BK286.out 0
         have hfz11_1 := blk_frozen BK286.out 1
         have hfz11_2 := blk_frozen BK286.out 2
         go_wp2
         go_meet
         case rel => exact ⟨_, (true), (by first | rfl | (simp; done) | (simp [*]; done)), H', ⟨by have := HK1.out; first | omega | exact Nat.le_refl _⟩, ⟨by (with_reducible repeat (first | refine blk_drewN ?_ _ | refine blk_drew ?_ | refine blk_alloc ?_ _)); refine blk_put (cs := #[.int .i64 ((rd_T42 l1 x15_1).f0), .int .i64 ((rd_T42 l1 x15_1).f1), .string (⟨#[]⟩ : ByteArray)]) ?_ 2 _ rfl; (with_reducible repeat (first | refine blk_drewN ?_ _ | refine blk_drew ?_ | refine blk_alloc ?_ _)); refine blk_put (cs := #[.int .i64 ((rd_T42 l1 x15_1).f0), .int .i64 0, .string (⟨#[]⟩ : ByteArray)]) ?_ 1 _ rfl; (with_reducible repeat (first | refine blk_drewN ?_ _ | refine blk_drew ?_ | refine blk_alloc ?_ _)); refine blk_put (cs := #[.int .i64 0, .int .i64 0, .string (⟨#[]⟩ : ByteArray)]) ?_ 0 _ rfl; (with_reducible repeat (first | refine blk_drewN ?_ _ | refine blk_drew ?_ | refine blk_alloc ?_ _)); exact BK286.out⟩, ⟨by repeat (first | (with_reducible first | exact HB.out | apply below_alloc | apply pw_below_drewN | apply below_drew1 | refine below_set ?_ GE286.out) | exact HB.out)⟩⟩
        ·rw [if_neg c10] at H
         have c10b0 : decide (((rd_T42 l1 x15_1).f0) < 1) = false := decide_eq_false c10
         clear c10
         (first | rw [c10b0] | (simp only [i64_w, i32_w]; rw [c10b0]) | skip)
         have H' := Aside0.mk H
         clear H
         have hcz12_0 : w8.cell? ⟨gb286, 0, none⟩ = some (.int .i64 0) := (blk_cell BK286.out 0).trans rfl
         have hcz12_1 : w8.cell? ⟨gb286, 1, none⟩ = some (.int .i64 0) := (blk_cell BK286.out 1).trans rfl
         have hcz12_2 : w8.cell? ⟨gb286, 2, none⟩ = some (.string (⟨#[]⟩ : ByteArray)) := (blk_cell BK286.out 2).trans rfl
         have hfz12_0 := blk_frozen BK286.out 0
         have hfz12_1 := blk_frozen BK286.out 1
         have hfz12_2 := blk_frozen BK286.out 2
         go_wp2
         go_meet
         case rel => exact ⟨_, (decide (((rd_T42 l1 x15_1).f0) > 3)), (by first | rfl | (simp; done) | (simp [*]; done)), H', ⟨by have := HK1.out; first | omega | exact Nat.le_refl _⟩, ⟨by (with_reducible repeat (first | refine blk_drewN ?_ _ | refine blk_drew ?_ | refine blk_alloc ?_ _)); refine blk_put (cs := #[.int .i64 ((rd_T42 l1 x15_1).f0), .int .i64 ((rd_T42 l1 x15_1).f1), .string (⟨#[]⟩ : ByteArray)]) ?_ 2 _ rfl; (with_reducible repeat (first | refine blk_drewN ?_ _ | refine blk_drew ?_ | refine blk_alloc ?_ _)); refine blk_put (cs := #[.int .i64 ((rd_T42 l1 x15_1).f0), .int .i64 0, .string (⟨#[]⟩ : ByteArray)]) ?_ 1 _ rfl; (with_reducible repeat (first | refine blk_drewN ?_ _ | refine blk_drew ?_ | refine blk_alloc ?_ _)); refine blk_put (cs := #[.int .i64 0, .int .i64 0, .string (⟨#[]⟩ : ByteArray)]) ?_ 0 _ rfl; (with_reducible repeat (first | refine blk_drewN ?_ _ | refine blk_drew ?_ | refine blk_alloc ?_ _)); exact BK286.out⟩, ⟨by repeat (first | (with_reducible first | exact HB.out | apply below_alloc | apply pw_below_drewN | apply below_drew1 | refine below_set ?_ GE286.out) | exact HB.out)⟩⟩
       case rest =>
        clear HC7
        try clear c1
        try clear p2
        try clear q2
        try clear hx2
        try clear c3
        try clear c3b0
        try clear c3b1
        try clear c4
        try clear c4b0
        try clear c5
        try clear c5b0
        try clear c6
        try clear c6b0
        try clear c10
        try clear c10b0
        try clear hcz11_0
        try clear hcz11_1
        try clear hcz11_2
        try clear hcz12_0
        try clear hcz12_1
        try clear hcz12_2
        try clear hcz9_0
        try clear hcz9_1
        try clear hcz9_2
        try clear hfz11_0
        try clear hfz11_1
        try clear hfz11_2
        try clear hfz12_0
        try clear hfz12_1
        try clear hfz12_2
        try clear hfz9_0
        try clear hfz9_1
        try clear hfz9_2
        try clear hx285_0
        try clear hx285_1
        try clear hx285_2
        try clear p2
        try clear p285
        try clear q285
        obtain ⟨kq, x27_6, rfl, HA, HJ6, BK286, HB⟩ := hcut
        cases kq with
        | zero => exact absurd HA.out (by simp [proof_marksError.j1])
        | succ kj6 =>
         have H := HA.out
         clear HA
         simp only [proof_marksError.j1] at H
         by_cases c13 : x27_6 = true
         ·subst c13
          have H1 : (some 8) = some r := by rw [if_pos rfl] at H; exact H
          clear H
          have H := H1
          clear H1
          obtain rfl := Option.some.inj H
          go_wp2
          go_ret
          exact ⟨by first | rfl | (simp [errW_none, errW_some] <;> rfl) | (simp [*, errW_none, errW_some] <;> rfl), by repeat (first | (with_reducible first | exact HB.out | apply below_alloc | apply pw_below_drewN | apply below_drew1 | refine below_set ?_ GE286.out) | exact HB.out)⟩
         ·replace c13 := Bool.eq_false_iff.mpr c13
          subst c13
          have H1 : (if ((rd_T42 l1 x15_1).f0) = 1 then (proof_marksError.j2 kj6 l0 l1 x15_1 (wrap64 ((wrap64 ((l0.length : Int) - 1)) + 1)) l1 (l1.length : Int) x15_1 ((rd_T42 l1 x15_1).f0) ((rd_T42 l1 x15_1).f1) ((rd_T42 l1 x15_1).f2)) else (proof_marksError.j2 kj6 l0 l1 x15_1 (wrap64 ((l0.length : Int) - 1)) l1 (l1.length : Int) x15_1 ((rd_T42 l1 x15_1).f0) ((rd_T42 l1 x15_1).f1) ((rd_T42 l1 x15_1).f2))) = some r := by rw [if_neg (show ¬ (false = true) by decide)] at H; exact H
          clear H
          have H := H1
          clear H1
          have HC14 := Aside0.mk H
          clear H
          have hcz15_0 : wc.cell? ⟨gb286, 0, none⟩ = some (.int .i64 ((rd_T42 l1 x15_1).f0)) := (blk_cell BK286.out 0).trans rfl
          have hcz15_1 : wc.cell? ⟨gb286, 1, none⟩ = some (.int .i64 ((rd_T42 l1 x15_1).f1)) := (blk_cell BK286.out 1).trans rfl
          have hcz15_2 : wc.cell? ⟨gb286, 2, none⟩ = some (.string ((rd_T42 l1 x15_1).f2)) := (blk_cell BK286.out 2).trans rfl
          have hfz15_0 := blk_frozen BK286.out 0
          have hfz15_1 := blk_frozen BK286.out 1
          have hfz15_2 := blk_frozen BK286.out 2
          go_upto_if 33 with (fail)
          go_cut [7] (fun v7 wc => ∃ (kq : Nat) (x7_13 : Int), v7 = .int .i64 x7_13 ∧ Aside0 (proof_marksError.j2 kq l0 l1 x15_1 x7_13 l1 (l1.length : Int) x15_1 ((rd_T42 l1 x15_1).f0) ((rd_T42 l1 x15_1).f1) ((rd_T42 l1 x15_1).f2) = some r) ∧ Aside0 (kq ≤ kj6) ∧ Aside0 (wc.heap[gb286]? = some (.cells #[.int .i64 ((rd_T42 l1 x15_1).f0), .int .i64 ((rd_T42 l1 x15_1).f1), .string ((rd_T42 l1 x15_1).f2)] 42 (0, 0))) ∧ Aside0 (Below w.heap.size w wc))
          case first =>
           have H := HC14.out
           clear HC14
           by_cases c16 : ((rd_T42 l1 x15_1).f0) = 1
           ·rw [if_pos c16] at H
            have c16b0 : (((rd_T42 l1 x15_1).f0) == 1) = true := beq_iff_eq.mpr c16
            have c16b1 : (((rd_T42 l1 x15_1).f0) != 1) = false := bne_eq_false_iff_eq.mpr c16
            clear c16
            (first | rw [c16b0] | (simp only [i64_w, i32_w]; rw [c16b0]) | skip)
            have H' := Aside0.mk H
            clear H
            go_wp2
            go_meet
            case rel => exact ⟨_, (wrap64 ((wrap64 ((l0.length : Int) - 1)) + 1)), (by first | rfl | (simp; done) | (simp [*]; done)), H', ⟨by have := HK1.out; have := HJ6.out; first | omega | exact Nat.le_refl _⟩, ⟨by (with_reducible repeat (first | refine blk_drewN ?_ _ | refine blk_drew ?_ | refine blk_alloc ?_ _)); exact BK286.out⟩, ⟨by repeat (first | (with_reducible first | exact HB.out | apply below_alloc | apply pw_below_drewN | apply below_drew1 | refine below_set ?_ GE286.out) | exact HB.out)⟩⟩
           ·rw [if_neg c16] at H
            have c16b0 : (((rd_T42 l1 x15_1).f0) == 1) = false := beq_eq_false_iff_ne.mpr c16
            have c16b1 : (((rd_T42 l1 x15_1).f0) != 1) = true := bne_iff_ne.mpr c16
            (first | rw [c16b0] | (simp only [i64_w, i32_w]; rw [c16b0]) | skip)
            have H' := Aside0.mk H
            clear H
            go_wp2
            go_meet
            case rel => exact ⟨_, (wrap64 ((l0.length : Int) - 1)), (by first | rfl | (simp; done) | (simp [*]; done)), H', ⟨by have := HK1.out; have := HJ6.out; first | omega | exact Nat.le_refl _⟩, ⟨by (with_reducible repeat (first | refine blk_drewN ?_ _ | refine blk_drew ?_ | refine blk_alloc ?_ _)); exact BK286.out⟩, ⟨by repeat (first | (with_reducible first | exact HB.out | apply below_alloc | apply pw_below_drewN | apply below_drew1 | refine below_set ?_ GE286.out) | exact HB.out)⟩⟩
          case rest =>
           clear HC14
           try clear c1
           try clear p2
           try clear q2
           try clear hx2
           try clear c3
           try clear c3b0
           try clear c3b1
           try clear c4
           try clear c4b0
           try clear c5
           try clear c5b0
           try clear c6
           try clear c6b0
           try clear p6
           try clear c10
           try clear c10b0
           try clear c13
           try clear c16
           try clear c16b0
           try clear c16b1
           try clear hcz11_0
           try clear hcz11_1
           try clear hcz11_2
           try clear hcz12_0
           try clear hcz12_1
           try clear hcz12_2
           try clear hcz15_0
           try clear hcz15_1
           try clear hcz15_2
           try clear hcz9_0
           try clear hcz9_1
           try clear hcz9_2
           try clear hfz11_0
           try clear hfz11_1
           try clear hfz11_2
           try clear hfz12_0
           try clear hfz12_1
           try clear hfz12_2
           try clear hfz15_0
           try clear hfz15_1
           try clear hfz15_2
           try clear hfz9_0
           try clear hfz9_1
           try clear hfz9_2
           try clear hx285_0
           try clear hx285_1
           try clear hx285_2
           try clear p2
           try clear p285
           try clear q2
           try clear q285
           obtain ⟨kq, x7_13, rfl, HA, HJ13, BK286, HB⟩ := hcut
           cases kq with
           | zero => exact absurd HA.out (by simp [proof_marksError.j2])
           | succ kj13 =>
            have H := HA.out
            clear HA
            simp only [proof_marksError.j2] at H
            have HC17 := Aside0.mk H
            clear H
            go_upto_region 11 with (fail)
            go_cut [44] (fun v44 wc => ∃ (kq : Nat) (x44_16 : Bool), v44 = .bool x44_16 ∧ Aside0 (proof_marksError.j3 kq l0 l1 x15_1 l1 (l1.length : Int) x15_1 x44_16 ((rd_T42 l1 x15_1).f0) ((rd_T42 l1 x15_1).f1) ((rd_T42 l1 x15_1).f2) = some r) ∧ Aside0 (kq ≤ kj13) ∧ Aside0 (wc.heap[gb286]? = some (.cells #[.int .i64 ((rd_T42 l1 x15_1).f0), .int .i64 ((rd_T42 l1 x15_1).f1), .string ((rd_T42 l1 x15_1).f2)] 42 (0, 0))) ∧ Aside0 (Below w.heap.size w wc))
            case first =>
             have H := HC17.out
             clear HC17
             by_cases c18 : ((rd_T42 l1 x15_1).f1) < 0
             ·rw [if_pos c18] at H
              have c18b0 : decide (((rd_T42 l1 x15_1).f1) < 0) = true := decide_eq_true c18
              clear c18
              (first | rw [c18b0] | (simp only [i64_w, i32_w]; rw [c18b0]) | skip)
              have H' := Aside0.mk H
              clear H
              have hcz19_0 : wc.cell? ⟨gb286, 0, none⟩ = some (.int .i64 ((rd_T42 l1 x15_1).f0)) := (blk_cell BK286.out 0).trans rfl
              have hcz19_1 : wc.cell? ⟨gb286, 1, none⟩ = some (.int .i64 ((rd_T42 l1 x15_1).f1)) := (blk_cell BK286.out 1).trans rfl
              have hcz19_2 : wc.cell? ⟨gb286, 2, none⟩ = some (.string ((rd_T42 l1 x15_1).f2)) := (blk_cell BK286.out 2).trans rfl
              have hfz19_0 := blk_frozen BK286.out 0
              have hfz19_1 := blk_frozen BK286.out 1
              have hfz19_2 := blk_frozen BK286.out 2
              go_wp2
              go_meet
              case rel => exact ⟨_, (true), (by first | rfl | (simp; done) | (simp [*]; done)), H', ⟨by have := HK1.out; have := HJ6.out; have := HJ13.out; first | omega | exact Nat.le_refl _⟩, ⟨by (with_reducible repeat (first | refine blk_drewN ?_ _ | refine blk_drew ?_ | refine blk_alloc ?_ _)); exact BK286.out⟩, ⟨by repeat (first | (with_reducible first | exact HB.out | apply below_alloc | apply pw_below_drewN | apply below_drew1 | refine below_set ?_ GE286.out) | exact HB.out)⟩⟩
             ·rw [if_neg c18] at H
              have c18b0 : decide (((rd_T42 l1 x15_1).f1) < 0) = false := decide_eq_false c18
              clear c18
              (first | rw [c18b0] | (simp only [i64_w, i32_w]; rw [c18b0]) | skip)
              have H' := Aside0.mk H
              clear H
              have hcz20_0 : wc.cell? ⟨gb286, 0, none⟩ = some (.int .i64 ((rd_T42 l1 x15_1).f0)) := (blk_cell BK286.out 0).trans rfl
              have hcz20_1 : wc.cell? ⟨gb286, 1, none⟩ = some (.int .i64 ((rd_T42 l1 x15_1).f1)) := (blk_cell BK286.out 1).trans rfl
              have hcz20_2 : wc.cell? ⟨gb286, 2, none⟩ = some (.string ((rd_T42 l1 x15_1).f2)) := (blk_cell BK286.out 2).trans rfl
              have hfz20_0 := blk_frozen BK286.out 0
              have hfz20_1 := blk_frozen BK286.out 1
              have hfz20_2 := blk_frozen BK286.out 2
              go_wp2
              go_meet
              case rel => exact ⟨_, (decide (((rd_T42 l1 x15_1).f1) > x7_13)), (by first | rfl | (simp; done) | (simp [*]; done)), H', ⟨by have := HK1.out; have := HJ6.out; have := HJ13.out; first | omega | exact Nat.le_refl _⟩, ⟨by (with_reducible repeat (first | refine blk_drewN ?_ _ | refine blk_drew ?_ | refine blk_alloc ?_ _)); exact BK286.out⟩, ⟨by repeat (first | (with_reducible first | exact HB.out | apply below_alloc | apply pw_below_drewN | apply below_drew1 | refine below_set ?_ GE286.out) | exact HB.out)⟩⟩
            case rest =>
             clear HC17
             try clear c1
             try clear p2
             try clear q2
             try clear hx2
             try clear c3
             try clear c3b0
             try clear c3b1
             try clear c4
             try clear c4b0
             try clear c5
             try clear c5b0
             try clear c6
             try clear c6b0
             try clear p6
             try clear c10
             try clear c10b0
             try clear c13
             try clear c16
             try clear c16b0
             try clear c16b1
             try clear c18
             try clear c18b0
             try clear hcz11_0
             try clear hcz11_1
             try clear hcz11_2
             try clear hcz12_0
             try clear hcz12_1
             try clear hcz12_2
             try clear hcz15_0
             try clear hcz15_1
             try clear hcz15_2
             try clear hcz19_0
             try clear hcz19_1
             try clear hcz19_2
             try clear hcz20_0
             try clear hcz20_1
             try clear hcz20_2
             try clear hcz9_0
             try clear hcz9_1
             try clear hcz9_2
             try clear hfz11_0
             try clear hfz11_1
             try clear hfz11_2
             try clear hfz12_0
             try clear hfz12_1
             try clear hfz12_2
             try clear hfz15_0
             try clear hfz15_1
             try clear hfz15_2
             try clear hfz19_0
             try clear hfz19_1
             try clear hfz19_2
             try clear hfz20_0
             try clear hfz20_1
             try clear hfz20_2
             try clear hfz9_0
             try clear hfz9_1
             try clear hfz9_2
             try clear hx285_0
             try clear hx285_1
             try clear hx285_2
             try clear p2
             try clear p285
             try clear p6
             try clear q2
             try clear q285
             obtain ⟨kq, x44_16, rfl, HA, HJ16, BK286, HB⟩ := hcut
             cases kq with
             | zero => exact absurd HA.out (by simp [proof_marksError.j3])
             | succ kj16 =>
              have H := HA.out
              clear HA
              simp only [proof_marksError.j3] at H
              by_cases c21 : x44_16 = true
              ·subst c21
               have H1 : (some 3) = some r := by rw [if_pos rfl] at H; exact H
               clear H
               have H := H1
               clear H1
               obtain rfl := Option.some.inj H
               go_wp2
               go_ret
               exact ⟨by first | rfl | (simp [errW_none, errW_some] <;> rfl) | (simp [*, errW_none, errW_some] <;> rfl), by repeat (first | (with_reducible first | exact HB.out | apply below_alloc | apply pw_below_drewN | apply below_drew1 | refine below_set ?_ GE286.out) | exact HB.out)⟩
              ·replace c21 := Bool.eq_false_iff.mpr c21
               subst c21
               have H1 : ((proof_textError.f ((rd_T42 l1 x15_1).f0) ((rd_T42 l1 x15_1).f1) ((rd_T42 l1 x15_1).f2)).bind fun t287 => (if t287 = 0 then (if x15_1 = 0 then (proof_marksError.l0 kj16 l0 l1 l1 (l1.length : Int) (wrap64 (x15_1 + 1))) else (if 0 ≤ (wrap64 (x15_1 - 1)) then (if (wrap64 (x15_1 - 1)) < (l1.length : Int) then (if ((rd_T42 l1 x15_1).f1) < ((rd_T42 l1 (wrap64 (x15_1 - 1))).f1) then (some 5) else (if ((rd_T42 l1 x15_1).f1) > ((rd_T42 l1 (wrap64 (x15_1 - 1))).f1) then (proof_marksError.j4 kj16 l0 l1 l1 (l1.length : Int) x15_1 true ((rd_T42 l1 x15_1).f0) ((rd_T42 l1 x15_1).f1) ((rd_T42 l1 x15_1).f2)) else (proof_marksError.j4 kj16 l0 l1 l1 (l1.length : Int) x15_1 (((rd_T42 l1 (wrap64 (x15_1 - 1))).f0) == 1) ((rd_T42 l1 x15_1).f0) ((rd_T42 l1 x15_1).f1) ((rd_T42 l1 x15_1).f2)))) else (none)) else (none))) else (some t287))) = some r := by rw [if_neg (show ¬ (false = true) by decide)] at H; exact H
               clear H
               have H := H1
               clear H1
               replace H := Option.bind_eq_some_iff.mp H
               obtain ⟨t287, A220, H⟩ := H
               try dsimp only at H
               have A22 := Aside0.mk A220
               clear A220
               by_cases c23 : t287 = 0
               ·rw [if_pos c23] at H
                have c23b0 : (t287 == 0) = true := beq_iff_eq.mpr c23
                have c23b1 : (t287 != 0) = false := bne_eq_false_iff_eq.mpr c23
                clear c23
                by_cases c24 : x15_1 = 0
                ·rw [if_pos c24] at H
                 have c24b0 : (x15_1 == 0) = true := beq_iff_eq.mpr c24
                 have c24b1 : (x15_1 != 0) = false := bne_eq_false_iff_eq.mpr c24
                 clear c24
                 have H' := Aside0.mk H
                 clear H
                 have hcz25_0 : wc.cell? ⟨gb286, 0, none⟩ = some (.int .i64 ((rd_T42 l1 x15_1).f0)) := (blk_cell BK286.out 0).trans rfl
                 have hcz25_1 : wc.cell? ⟨gb286, 1, none⟩ = some (.int .i64 ((rd_T42 l1 x15_1).f1)) := (blk_cell BK286.out 1).trans rfl
                 have hcz25_2 : wc.cell? ⟨gb286, 2, none⟩ = some (.string ((rd_T42 l1 x15_1).f2)) := (blk_cell BK286.out 2).trans rfl
                 have hfz25_0 := blk_frozen BK286.out 0
                 have hfz25_1 := blk_frozen BK286.out 1
                 have hfz25_2 := blk_frozen BK286.out 2
                 go_wp2_with (first | ((with_reducible refine gate_callee (f := 64) rfl ?_); refine goesL_ (some 46) rfl rfl Tryz.func64 (by kernel_rfl) rfl #[.agg #[.int .i64 ((rd_T42 l1 x15_1).f0), .int .i64 ((rd_T42 l1 x15_1).f1), .string ((rd_T42 l1 x15_1).f2)]] rfl (by (try simp only [List.map_toArray, List.map_cons, List.map_nil]); first | done | rfl | (simp only [List.length_drop, List.length_take]; rfl)) ?_; (with_reducible refine (proof_textError.calls ((rd_T42 l1 x15_1).f0) ((rd_T42 l1 x15_1).f1) ((rd_T42 l1 x15_1).f2) t287 _ A22.out).mono ?_); rintro e w26 ⟨rfl, hb⟩; refine ⟨_, rfl, ?_⟩; have n0_ := Aside0.mk (blk_below (g := gb286) (o := .cells #[.int .i64 ((rd_T42 l1 x15_1).f0), .int .i64 ((rd_T42 l1 x15_1).f1), .string ((rd_T42 l1 x15_1).f2)] 42 (0, 0)) (by (with_reducible repeat (first | refine blk_drewN ?_ _ | refine blk_drew ?_ | refine blk_alloc ?_ _)); exact BK286.out) hb); have n1_ := Aside0.mk (below_step (by repeat (first | (with_reducible first | exact HB.out | apply below_alloc | apply pw_below_drewN | apply below_drew1 | refine below_set ?_ GE286.out) | exact HB.out)) hb); clear BK286; clear HB; have BK286 := n0_; have HB := n1_; clear n0_ n1_; (try clear hb); (try clear hb2); (try clear hk); (try clear hi)))
                 go_roundg kj16
                 case measure => have := HK1.out; have := HJ6.out; have := HJ13.out; have := HJ16.out; omega
                 case rel => exact ⟨(wrap64 (x15_1 + 1)), (by first | rfl | (simp; done) | (simp [*]; done)), H', ⟨by have := HK1.out; have := HJ6.out; have := HJ13.out; have := HJ16.out; omega⟩, ⟨by repeat (first | (with_reducible first | exact HB.out | apply below_alloc | apply pw_below_drewN | apply below_drew1 | refine below_set ?_ GE286.out) | exact HB.out)⟩⟩
                ·exact absurd hx0_.out c24
               ·rw [if_neg c23] at H
                have c23b0 : (t287 == 0) = false := beq_eq_false_iff_ne.mpr c23
                have c23b1 : (t287 != 0) = true := bne_iff_ne.mpr c23
                obtain rfl := Option.some.inj H
                have hcz57_0 : wc.cell? ⟨gb286, 0, none⟩ = some (.int .i64 ((rd_T42 l1 x15_1).f0)) := (blk_cell BK286.out 0).trans rfl
                have hcz57_1 : wc.cell? ⟨gb286, 1, none⟩ = some (.int .i64 ((rd_T42 l1 x15_1).f1)) := (blk_cell BK286.out 1).trans rfl
                have hcz57_2 : wc.cell? ⟨gb286, 2, none⟩ = some (.string ((rd_T42 l1 x15_1).f2)) := (blk_cell BK286.out 2).trans rfl
                have hfz57_0 := blk_frozen BK286.out 0
                have hfz57_1 := blk_frozen BK286.out 1
                have hfz57_2 := blk_frozen BK286.out 2
                go_wp2_with (first | ((with_reducible refine gate_callee (f := 64) rfl ?_); refine goesL_ (some 46) rfl rfl Tryz.func64 (by kernel_rfl) rfl #[.agg #[.int .i64 ((rd_T42 l1 x15_1).f0), .int .i64 ((rd_T42 l1 x15_1).f1), .string ((rd_T42 l1 x15_1).f2)]] rfl (by (try simp only [List.map_toArray, List.map_cons, List.map_nil]); first | done | rfl | (simp only [List.length_drop, List.length_take]; rfl)) ?_; (with_reducible refine (proof_textError.calls ((rd_T42 l1 x15_1).f0) ((rd_T42 l1 x15_1).f1) ((rd_T42 l1 x15_1).f2) t287 _ A22.out).mono ?_); rintro e w58 ⟨rfl, hb⟩; refine ⟨_, rfl, ?_⟩; have n0_ := Aside0.mk (blk_below (g := gb286) (o := .cells #[.int .i64 ((rd_T42 l1 x15_1).f0), .int .i64 ((rd_T42 l1 x15_1).f1), .string ((rd_T42 l1 x15_1).f2)] 42 (0, 0)) (by (with_reducible repeat (first | refine blk_drewN ?_ _ | refine blk_drew ?_ | refine blk_alloc ?_ _)); exact BK286.out) hb); have n1_ := Aside0.mk (below_step (by repeat (first | (with_reducible first | exact HB.out | apply below_alloc | apply pw_below_drewN | apply below_drew1 | refine below_set ?_ GE286.out) | exact HB.out)) hb); clear BK286; clear HB; have BK286 := n0_; have HB := n1_; clear n0_ n1_; (try clear hb); (try clear hb2); (try clear hk); (try clear hi)))
                go_ret
                exact ⟨by first | rfl | (simp [errW_none, errW_some] <;> rfl) | (simp [*, errW_none, errW_some] <;> rfl), by repeat (first | (with_reducible first | exact HB.out | apply below_alloc | apply pw_below_drewN | apply below_drew1 | refine below_set ?_ GE286.out) | exact HB.out)⟩
      ·rw [if_neg c6] at H
       exact absurd H (by simp)
     ·rw [if_neg c5] at H
      exact absurd H (by simp)
    ·rw [if_neg c4] at H
     have c4b0 : decide (x15_1 < (l1.length : Int)) = false := decide_eq_false c4
     clear c4
     obtain rfl := Option.some.inj H
     go_wp2
     go_ret
     exact ⟨by first | rfl | (simp [errW_none, errW_some] <;> rfl) | (simp [*, errW_none, errW_some] <;> rfl), by repeat (first | (with_reducible first | exact HB.out | apply below_alloc | apply pw_below_drewN | apply below_drew1) | exact HB.out)⟩
end Go.Proofs.YteoknahabkoknaaGreatDoor.P
namespace Go.Proofs.YteoknahabkoknaaGreatDoor.P
open Go.RowKit Go.Proofs.YteoknahabkoknaaGreatDoorW.PrintWords Go.Proofs.YteoknahabkoknaaGreatDoorW.PrintLast Go.Proofs.YteoknahabkoknaaGreatDoorW.PrintMore
attribute [local go_sem] max2_int min2_int max_two min_two max_three min_three max_four min_four   -- for this text's walks alone
set_option linter.unusedVariables false
set_option linter.unusedSimpArgs false
def proof_checked.f (k : Nat) (l0 : List ByteArray) (l1 : List (S42)) : Option (Int) := (proof_Check.f k l0).bind fun t290 => (if t290 = 0 then ((proof_marksError.f k l0 l1).bind fun t291 => (some t291)) else (some t290))
set_option maxHeartbeats 8000000 in
set_option maxRecDepth 100000 in
theorem proof_checked.calls (k : Nat) (A0 : Option Addr) (c0 : Nat) (l0 : List ByteArray) (A1 : Option Addr) (c1 : Nat) (l1 : List (S42)) (r : Int) (w : World) (hr0 : Kd.C Kd.string w A0 l0.length l0) (hc0 : l0.length ≤ c0) (hr1 : Kd.C k42 w A1 l1.length l1) (hc1 : l1.length ≤ c1) (h : proof_checked.f k l0 l1 = some r) (hl : l1.length ≤ 1) :
  Calls Tryz.prog 24 #[.slice A0 l0.length c0, .slice A1 l1.length c1] w fun e w' => e = .returned (.int .i64 r) ∧ Below w.heap.size w w' := by
 have HR0 := Aside0.mk hr0
 have HC0 := Aside0.mk hc0
 clear hr0 hc0
 have HR1 := Aside0.mk hr1
 have HC1 := Aside0.mk hc1
 clear hr1 hc1
 have HB := Aside0.mk (Below.refl w.heap.size w)
 have H : ((proof_Check.f k l0).bind fun t290 => (if t290 = 0 then ((proof_marksError.f k l0 l1).bind fun t291 => (some t291)) else (some t290))) = some r := h
 clear h
 replace H := Option.bind_eq_some_iff.mp H
 obtain ⟨t290, A30, H⟩ := H
 try dsimp only at H
 have A3 := Aside0.mk A30
 clear A30
 by_cases c4 : t290 = 0
 ·rw [if_pos c4] at H
  have c4b0 : (t290 == 0) = true := beq_iff_eq.mpr c4
  have c4b1 : (t290 != 0) = false := bne_eq_false_iff_eq.mpr c4
  clear c4
  replace H := Option.bind_eq_some_iff.mp H
  obtain ⟨t291, A50, H⟩ := H
  try dsimp only at H
  have A5 := Aside0.mk A50
  clear A50
  obtain rfl := Option.some.inj H
  go_enter Tryz.func24, Tryz.ntmps24
  go_wp2_with (first | ((with_reducible refine gate_callee (f := 22) rfl ?_); refine goesL_ (some 7) rfl rfl Tryz.func22 (by kernel_rfl) rfl #[.slice A0 l0.length c0] rfl (by (try simp only [List.map_toArray, List.map_cons, List.map_nil]); first | done | rfl | (simp only [List.length_drop, List.length_take]; rfl)) ?_; (with_reducible refine (proof_Check.calls k _ _ l0 t290 _ ?side1 ?side2 A3.out).mono ?_); (case side1 => repeat (first | exact HR0.out | (with_reducible refine Kd.C_alloc ?_ _) | (with_reducible refine Kd.C_drewN ?_ _) | (with_reducible refine Kd.C_drew ?_))); (case side2 => exact HC0.out); rintro e w6 ⟨rfl, hb⟩; refine ⟨_, rfl, ?_⟩; have n0_ := Aside0.mk (below_step (by repeat (first | (with_reducible first | exact HB.out | apply below_alloc | apply pw_below_drewN | apply below_drew1) | exact HB.out)) hb); clear HB; have HB := n0_; clear n0_; (try clear hb); (try clear hb2); (try clear hk); (try clear hi)) | ((with_reducible refine gate_callee (f := 47) rfl ?_); refine goesL_ (some 13) rfl rfl Tryz.func47 (by kernel_rfl) rfl #[.slice A0 l0.length c0, .slice A1 l1.length c1] rfl (by (try simp only [List.map_toArray, List.map_cons, List.map_nil]); first | done | rfl | (simp only [List.length_drop, List.length_take]; rfl)) ?_; (with_reducible refine (proof_marksError.calls k _ _ l0 _ _ l1 t291 _ ?side1 ?side2 ?side3 ?side4 A5.out hl).mono ?_); (case side1 => repeat (first | exact (Kd.C_below HR0.out HB.out) | (with_reducible refine Kd.C_alloc ?_ _) | (with_reducible refine Kd.C_drewN ?_ _) | (with_reducible refine Kd.C_drew ?_))); (case side2 => exact HC0.out); (case side3 => repeat (first | exact (Kd.C_below HR1.out HB.out) | (with_reducible refine Kd.C_alloc ?_ _) | (with_reducible refine Kd.C_drewN ?_ _) | (with_reducible refine Kd.C_drew ?_))); (case side4 => exact HC1.out); rintro e w7 ⟨rfl, hb⟩; refine ⟨_, rfl, ?_⟩; have n0_ := Aside0.mk (below_step (by repeat (first | (with_reducible first | exact HB.out | apply below_alloc | apply pw_below_drewN | apply below_drew1) | exact HB.out)) hb); clear HB; have HB := n0_; clear n0_; (try clear hb); (try clear hb2); (try clear hk); (try clear hi)))
  go_ret
  exact ⟨by first | rfl | (simp [errW_none, errW_some] <;> rfl) | (simp [*, errW_none, errW_some] <;> rfl), by repeat (first | (with_reducible first | exact HB.out | apply below_alloc | apply pw_below_drewN | apply below_drew1) | exact HB.out)⟩
 ·rw [if_neg c4] at H
  have c4b0 : (t290 == 0) = false := beq_eq_false_iff_ne.mpr c4
  have c4b1 : (t290 != 0) = true := bne_iff_ne.mpr c4
  obtain rfl := Option.some.inj H
  go_enter Tryz.func24, Tryz.ntmps24
  go_wp2_with (first | ((with_reducible refine gate_callee (f := 22) rfl ?_); refine goesL_ (some 7) rfl rfl Tryz.func22 (by kernel_rfl) rfl #[.slice A0 l0.length c0] rfl (by (try simp only [List.map_toArray, List.map_cons, List.map_nil]); first | done | rfl | (simp only [List.length_drop, List.length_take]; rfl)) ?_; (with_reducible refine (proof_Check.calls k _ _ l0 t290 _ ?side1 ?side2 A3.out).mono ?_); (case side1 => repeat (first | exact HR0.out | (with_reducible refine Kd.C_alloc ?_ _) | (with_reducible refine Kd.C_drewN ?_ _) | (with_reducible refine Kd.C_drew ?_))); (case side2 => exact HC0.out); rintro e w8 ⟨rfl, hb⟩; refine ⟨_, rfl, ?_⟩; have n0_ := Aside0.mk (below_step (by repeat (first | (with_reducible first | exact HB.out | apply below_alloc | apply pw_below_drewN | apply below_drew1) | exact HB.out)) hb); clear HB; have HB := n0_; clear n0_; (try clear hb); (try clear hb2); (try clear hk); (try clear hi)))
  go_ret
  exact ⟨by first | rfl | (simp [errW_none, errW_some] <;> rfl) | (simp [*, errW_none, errW_some] <;> rfl), by repeat (first | (with_reducible first | exact HB.out | apply below_alloc | apply pw_below_drewN | apply below_drew1) | exact HB.out)⟩
end Go.Proofs.YteoknahabkoknaaGreatDoor.P
namespace Go.Proofs.YteoknahabkoknaaGreatDoor.P
open Go.RowKit Go.Proofs.YteoknahabkoknaaGreatDoorW.PrintWords Go.Proofs.YteoknahabkoknaaGreatDoorW.PrintLast Go.Proofs.YteoknahabkoknaaGreatDoorW.PrintMore
attribute [local go_sem] max2_int min2_int max_two min_two max_three min_three max_four min_four   -- for this text's walks alone
set_option linter.unusedVariables false
set_option linter.unusedSimpArgs false
theorem eqA42 (d : Nat) (w : World) (x0 y0 : Int) (x1 y1 : Int) (x2 y2 : ByteArray) :
  (Op.equalIn (d + 2) 42 (.agg #[.int .i64 x0, .int .i64 x1, .string x2]) (.agg #[.int .i64 y0, .int .i64 y1, .string y2])).run Tryz.prog w = .ok (x0 == y0 && (x1 == y1 && (x2.toList == y2.toList))) w := by
 refine eqA_of Tryz.underlying42 (by kernel_rfl) ?_
 refine eqf_cons (by rfl) (by go_simp; rfl) (by go_simp; rfl) (by go_simp) ?_
 refine eqf_cons (by rfl) (by go_simp; rfl) (by go_simp; rfl) (by go_simp) ?_
 exact eqf_last (by rfl) (by go_simp; rfl) (by go_simp; rfl) (by go_simp)
end Go.Proofs.YteoknahabkoknaaGreatDoor.P
namespace Go.Proofs.YteoknahabkoknaaGreatDoor.P
open Go.RowKit Go.Proofs.YteoknahabkoknaaGreatDoorW.PrintWords Go.Proofs.YteoknahabkoknaaGreatDoorW.PrintLast
set_option linter.unusedVariables false
set_option linter.unusedSimpArgs false
/- proof.made, where there are no marks: the page, in a row of its own. -/
/-- Whatever a map of functions holds: its entries read as nothing. -/
def noElem (v : Value) : Option (DataW Unit × List MemPlace) := some (.nil, [])
theorem deeds_calls (w : World) : Calls Tryz.prog 68 #[] w fun e w' => ∃ g, e = .returned (.map (some g)) ∧ Below w.heap.size w w' := by
 have hmm := @run_makeMap Tryz.prog
 have h0 := World.ownsMap_made w Tryz.prog 3 noElem
 have law : Go.Maps.Keyed Tryz.prog 3 := Go.Maps.int_keyed Tryz.underlying3
 have hk := fun (x : Int) (hx : (Lit.int .i64 x).wf = true) => Go.Maps.keyOf_int_mk (P := Tryz.prog) (k := 3) Tryz.underlying3 hx
 obtain ⟨w1, e1, h1, g1⟩ := h0.update (t := 113) law Tryz.underlying113 (by decide) (key := .int .i64 1) (val := .func (.func 76) #[] #[]) (hk 1 (by decide)) rfl
 obtain ⟨w2, e2, h2, g2⟩ := h1.update (t := 113) law Tryz.underlying113 (by decide) (key := .int .i64 2) (val := .func (.func 77) #[] #[]) (hk 2 (by decide)) rfl
 obtain ⟨w3, e3, h3, g3⟩ := h2.update (t := 113) law Tryz.underlying113 (by decide) (key := .int .i64 3) (val := .func (.func 78) #[] #[]) (hk 3 (by decide)) rfl
 have hB : Below w.heap.size w w3 := by
  have b0 : Below w.heap.size w (w.alloc (.map #[] 0)) := (Below.refl _ _).alloc (Nat.le_refl _) _
  have b1 := b0.grown g1 b0.size (fun j hj => by cases hj; exact Nat.le_refl _)
  have b2 := b1.grown g2 b1.size (fun j hj => by cases hj; exact Nat.le_refl _)
  exact b2.grown g3 b2.size (fun j hj => by cases hj; exact Nat.le_refl _)
 have HB := Aside0.mk hB
 clear hB h0 h1 h2 h3 g1 g2 g3 law hk
 go_enter Tryz.func68, Tryz.ntmps68
 go_wp2
 go_ret
 exact ⟨_, rfl, HB.out⟩
def proof_made.f (l0 : List ByteArray) (l1 : List (S42)) : Option (List ByteArray) := if l1.length = 0 ∧ l0.length < 1000 then some l0 else none
theorem slice_zero {P : Program} {t e : TypeId} {i : TypeInfo} (ht : P.underlying t = some (.slice e)) (hi : P.info? e = some i) (_hs : i.size = 1) (A : Option Addr) (n c : Nat) (hc : n ≤ c) (W : World) :
  (Instr.slice t (.slice A n c) (some (.int .i64 0)) none none).run P W = .ok (.slice A n c) W := by
 have hel : P.elem t = e := by simp [Program.elem, ht]
 have hu : P.underlying t = some (.slice (P.elem t)) := by rw [hel]; exact ht
 have ha : ∀ s, (A.map fun x => x.add (0 * s)) = A := by intro s; cases A <;> simp [Addr.add]
 rw [run_slice_l W t A n c hu .i64 0 (by omega) (by omega)]
 simp [hel, sizeOf, typeInfo, hi, sliced, Result.andThen]
 intro _
 simpa using ha 0
set_option maxHeartbeats 4000000 in
set_option maxRecDepth 100000 in
theorem proof_made.calls (A0 : Option Addr) (c0 : Nat) (l0 : List ByteArray) (A1 : Option Addr) (c1 : Nat) (l1 : List (S42)) (r : List ByteArray) (w : World) (hr0 : Kd.C Kd.string w A0 l0.length l0) (hc0 : l0.length ≤ c0) (hr1 : Kd.C k42 w A1 l1.length l1) (hc1 : l1.length ≤ c1) (h : proof_made.f l0 l1 = some r) :
  Calls Tryz.prog 56 #[.slice A0 l0.length c0, .slice A1 l1.length c1] w fun e w' => ∃ v0_ : Value, e = .returned (v0_) ∧ Kd.R Kd.string 9 w' w.heap.size (fun _ => True) v0_ r ∧ Below w.heap.size w w' := by
 unfold proof_made.f at h
 split at h
 case isFalse => cases h
 rename_i hcond
 obtain ⟨h1, h2⟩ := hcond
 obtain rfl := Option.some.inj h
 rw [h1]
 clear h hr1 h1 hc1
 have HR := Aside0.mk hr0
 have HC := Aside0.mk hc0
 have H2 := Aside0.mk h2
 clear hr0 hc0 h2
 obtain ⟨i9, hi9, hz9⟩ := Option.map_eq_some_iff.1 info9
 go_enter Tryz.func56, Tryz.ntmps56
 go_wp2_with (go_at_call 68; refine (deeds_calls _).mono ?_; rintro e w2 ⟨gm, rfl, hb⟩)
 have hblk : w2.heap[w.heap.size]? = some (.cells #[.slice none 0 0, .int .i64 0] 112 (0, 0)) := (hb.block _ (by simp)).trans (heap_alloc_new w _)
 have hB2 : Below w.heap.size w w2 := below_then ((Below.refl _ _).alloc (Nat.le_refl _) _) (by simp) hb
 have HR2 := Aside0.mk (Kd.C_below HR.out hB2)
 clear hb
 obtain ⟨g, hgw⟩ : ∃ g, w.heap.size = g := ⟨_, rfl⟩
 rw [hgw] at hblk hB2
 simp only [hgw]
 refine wp_loop_rounds 1 ?_
 rw [rounds_succ]
 go_wp2
 have c0c : w2.cell? ⟨g, 0, none⟩ = some (.slice none 0 0) := (blk_cell hblk 0).trans rfl
 have c1c : w2.cell? ⟨g, 1, none⟩ = some (.int .i64 0) := (blk_cell hblk 1).trans rfl
 have hsl := fun W => slice_zero (P := Tryz.prog) (i := i9) Tryz.underlying25 hi9 (by simp only [Prod.mk.injEq] at hz9; exact hz9.2.1) A0 l0.length c0 HC.out W
 have hgl : g < w2.heap.size := blk_lt hblk
 go_region_held3 (fun w' => w'.cell? ⟨g, 0, none⟩ = some (.slice none 0 0) ∧ w'.cell? ⟨g, 1, none⟩ = some (.int .i64 0)) (first | go_keep | exact ⟨(blk_cell ((hg3.block g hgl (by simp [Value.ownBlock])).trans hblk) 0).trans rfl, (blk_cell ((hg3.block g hgl (by simp [Value.ownBlock])).trans hblk) 1).trans rfl⟩)
  ((refine Kd.R_append_rows_step Kd.string (w0 := w) g (by rfl) (.tmp 60) (.tmp 66) 25 9 (.string ⟨#[]⟩) 16 rfl Tryz.underlying25 info9 rfl (by decide) (by omega) (.slice none 0 0) [] l0 A0 l0.length c0 (fun _ => True) (fun _ => False) (by rfl) (by rfl) (Kd.R_nil _ _ _ _ _) (Kd.C_drew HR2.out) (fun _ _ h => h) (fun _ h => h.elim) (fun _ _ => trivial) (below_drew1 hB2) (Nat.le_of_lt hgl) (by have := H2.out; simp; omega) ?_; intro v1 w3 hR hB3 hg3 hat3))
 go_wp2
 go_ret
 exact ⟨v1, rfl, by rw [hgw]; simpa using hR, by rw [hgw]; exact hB3⟩
end Go.Proofs.YteoknahabkoknaaGreatDoor.P
