/- Parts of the proof of topCorrected_card: the texts MPlN, MPlS, MTop, MPlZ of the session's own drivers and templates, laid together by a program of the session's own; what the theorem does not come to is left out. -/
import Derived.Carry
import Derived.Deep.DrawnRows
import Derived.Deep.RegionHeld3
import Derived.Deep.RegionLawGrows
import Derived.Laws.Closers25b
import Derived.Laws.Strings
import Derived.Outline
import Derived.Test.YteoknahabkoknaaGreatDoorY1
import Derived.Test.YteoknahabkoknaaGreatDoorY10
import Derived.Test.YteoknahabkoknaaGreatDoorY4
import Derived.Test.YteoknahabkoknaaGreatDoorY5
import Derived.Test.YteoknahabkoknaaGreatDoorY6
import Derived.Test.YteoknahabkoknaaGreatDoorY7
import Derived.Test.YteoknahabkoknaaGreatDoorY8
import Derived.Test.YteoknahabkoknaaGreatDoorY9
namespace Go.Proofs.YteoknahabkoknaaGreatDoor.P
open Go.RowKit Go.Proofs.YteoknahabkoknaaGreatDoorW.PrintWords Go.Proofs.YteoknahabkoknaaGreatDoorW.PrintLast
set_option linter.unusedVariables false
set_option linter.unusedSimpArgs false
/- Names made of numbers; and names out of their place. -/
theorem raw_ok (nums : List Int) (a s : Int) (h : 0 ≤ a) : ∃ r a' s', wayzgoosekit_Dice_raw.f nums a s = some (r, a', s') ∧ 0 ≤ r ∧ 0 ≤ a' := by
 have hd : ∀ x, 0 ≤ dn1 x := fun x => Go.bits_lo_u64 _ _ _
 unfold wayzgoosekit_Dice_raw.f
 by_cases h1 : a < (nums.length : Int)
 ·rw [if_pos h1, if_pos h]
  exact ⟨_, _, _, rfl, hd _, by omega⟩
 ·rw [if_neg h1]
  exact ⟨_, _, _, rfl, hd _, h⟩
theorem To_ok (nums : List Int) (a s n : Int) (h : 0 ≤ a) (hn : 0 ≤ n) (hn2 : n ≤ 1000) : ∃ r a' s', wayzgoosekit_Dice_To.f nums a s n = some (r, a', s') ∧ 0 ≤ r ∧ r ≤ n ∧ 0 ≤ a' := by
 unfold wayzgoosekit_Dice_To.f
 by_cases h1 : n < 1
 ·rw [if_pos h1]
  exact ⟨0, a, s, rfl, by omega, hn, h⟩
 ·obtain ⟨r, a', s', hr, h0, ha⟩ := raw_ok nums a s h
  have e : IntKind.u64.wrap (wrap64 (n + 1)) = n + 1 := by
   have e1 : wrap64 (n + 1) = n + 1 := by unfold wrap64; omega
   rw [e1]
   show (n + 1) % 18446744073709551616 = n + 1
   omega
  rw [if_neg h1, hr, Option.bind_some, e, if_neg (by omega)]
  have h2 : 0 ≤ r / 65536 := by omega
  have h3 := Int.tmod_nonneg (n + 1) h2
  have h4 := Int.tmod_lt_of_pos (r / 65536) (show (0 : Int) < n + 1 by omega)
  refine ⟨_, _, _, rfl, ?_, ?_, ha⟩
  ·show 0 ≤ wrap64 ((r / 65536).tmod (n + 1))
   unfold wrap64
   omega
  ·show wrap64 ((r / 65536).tmod (n + 1)) ≤ n
   unfold wrap64
   omega
theorem Once_ok (nums : List Int) (a s n : Int) (h : 0 ≤ a) (hn : 1 ≤ n) (hn2 : n ≤ 1000) : ∃ b a' s', wayzgoosekit_Dice_Once.f nums a s n = some (b, a', s') ∧ 0 ≤ a' := by
 obtain ⟨r, a', s', hr, _, _, ha⟩ := To_ok nums a s (n - 1) h (by omega) (by omega)
 unfold wayzgoosekit_Dice_Once.f
 rw [show wrap64 (n - 1) = n - 1 by unfold wrap64; omega, hr]
 exact ⟨_, _, _, rfl, ha⟩
theorem Word_ok (nums : List Int) (a s : Int) (l : List ByteArray) (h : 0 ≤ a) (hl : 1 ≤ l.length) (hl2 : l.length ≤ 100) : ∃ x a' s', wayzgoosekit_Dice_Word.f nums a s l = some (x, a', s') ∧ x ∈ l ∧ 0 ≤ a' := by
 obtain ⟨r, a', s', hr, h0, h1, ha⟩ := To_ok nums a s ((l.length : Int) - 1) h (by omega) (by omega)
 unfold wayzgoosekit_Dice_Word.f
 rw [show wrap64 ((l.length : Int) - 1) = (l.length : Int) - 1 by unfold wrap64; omega, hr, Option.bind_some]
 simp only
 rw [if_pos h0, if_pos (by omega)]
 exact ⟨_, _, _, rfl, rd_mem l r h0 (by omega), ha⟩
theorem From_ok (nums : List Int) (a s lo hi : Int) (h : 0 ≤ a) (h0 : 0 ≤ lo) (h1 : lo ≤ hi) (h2 : hi ≤ 1000) : ∃ r a' s', wayzgoosekit_Dice_From.f nums a s lo hi = some (r, a', s') ∧ lo ≤ r ∧ r ≤ hi ∧ 0 ≤ a' := by
 obtain ⟨r, a', s', hr, e0, e1, ha⟩ := To_ok nums a s (hi - lo) h (by omega) (by omega)
 unfold wayzgoosekit_Dice_From.f
 rw [show wrap64 (hi - lo) = hi - lo by unfold wrap64; omega, hr]
 refine ⟨_, _, _, rfl, ?_, ?_, ha⟩
 ·show lo ≤ wrap64 (lo + r)
  unfold wrap64
  omega
 ·show wrap64 (lo + r) ≤ hi
  unfold wrap64
  omega
/-- Letters of one alphabet. -/
def setOk (c : Int) (s : ByteArray) : Bool := decide (1 ≤ s.size) && decide (s.size ≤ 7) && s.data.toList.all (fun b => decide (kindN b.toNat = c))
theorem setOk_is {c : Int} {s : ByteArray} (h : setOk c s = true) : 1 ≤ s.size ∧ s.size ≤ 7 ∧ ∀ b ∈ s.data.toList, kindN b.toNat = c := by
 unfold setOk at h
 rw [Bool.and_eq_true, Bool.and_eq_true] at h
 exact ⟨of_decide_eq_true h.1.1, of_decide_eq_true h.1.2, fun b hb => of_decide_eq_true (List.all_eq_true.1 h.2 b hb)⟩
theorem app_data (x y : ByteArray) : (x ++ y).data.toList = x.data.toList ++ y.data.toList := by simp [ByteArray.data_append]
theorem app_size (x y : ByteArray) : (x ++ y).size = x.size + y.size := by rw [size_data, size_data x, size_data y, app_data, List.length_append]
theorem ext_size (s : ByteArray) (i j : Nat) (h : i ≤ j) (h2 : j ≤ s.size) : (s.extract i j).size = j - i := by
 rw [size_data, Go.Lib.extract_data, List.length_take, List.length_drop, ← size_data]
 omega
theorem ext_mem {s : ByteArray} {i j : Nat} {b : UInt8} (h : b ∈ (s.extract i j).data.toList) : b ∈ s.data.toList := by
 rw [Go.Lib.extract_data] at h
 exact List.mem_of_mem_drop (List.mem_of_mem_take h)
theorem name_loop (nums : List Int) {c : Int} {set : ByteArray} (hs : setOk c set = true) : ∀ (m k : Nat) (x : ByteArray) (i a s : Int), i = m → m ≤ 10 → m < k → 0 ≤ a → x.size + m ≤ 20 → (∀ b ∈ x.data.toList, kindN b.toNat = c) →
  ∃ r a' s', wayzgoosekit_NameOf.l0 k set x i nums a s = some (r, a', s') ∧ r.size = x.size + m ∧ (∀ b ∈ r.data.toList, kindN b.toNat = c) ∧ 0 ≤ a' := by
 obtain ⟨hs1, hs2, hs3⟩ := setOk_is hs
 intro m
 induction m with
 | zero =>
  intro k x i a s hi hm hk ha hx hc
  obtain ⟨k, rfl⟩ : ∃ q, k = q + 1 := ⟨k - 1, by omega⟩
  rw [wayzgoosekit_NameOf.l0, if_neg (by omega)]
  exact ⟨_, _, _, rfl, by omega, hc, ha⟩
 | succ m ih =>
  intro k x i a s hi hm hk ha hx hc
  obtain ⟨k, rfl⟩ : ∃ q, k = q + 1 := ⟨k - 1, by omega⟩
  obtain ⟨r, a', s', hr, h0, h1, ha'⟩ := To_ok nums a s ((set.size : Int) - 1) ha (by omega) (by omega)
  have e1 : wrap64 (r + 1) = r + 1 := by unfold wrap64; omega
  have e2 : (r + 1).toNat = r.toNat + 1 := by omega
  have hz := ext_size set r.toNat (r.toNat + 1) (by omega) (by omega)
  rw [wayzgoosekit_NameOf.l0, if_pos (by omega), show wrap64 ((set.size : Int) - 1) = (set.size : Int) - 1 by unfold wrap64; omega, hr, Option.bind_some]
  simp only [e1, e2]
  rw [if_pos h0, if_pos (by omega), if_pos (by omega), if_pos (by omega), show wrap64 (i - 1) = i - 1 by unfold wrap64; omega]
  obtain ⟨r2, a2, s2, h2, h3, h4, h5⟩ := ih k (x ++ set.extract r.toNat (r.toNat + 1)) (i - 1) a' s' (by omega) (by omega) (by omega) ha' (by rw [app_size]; omega) (fun b hb => by
   rw [app_data] at hb
   rcases List.mem_append.1 hb with hb | hb
   ·exact hc b hb
   ·exact hs3 b (ext_mem hb))
  refine ⟨r2, a2, s2, h2, ?_, h4, h5⟩
  rw [h3, app_size]
  omega
theorem sets_low : (([(⟨#[97, 101, 115]⟩ : ByteArray), (⟨#[115, 104, 101, 116, 97]⟩ : ByteArray), (⟨#[115, 109, 105, 116, 121, 104, 97]⟩ : ByteArray), (⟨#[99, 104, 106, 97]⟩ : ByteArray), (⟨#[97, 110, 110, 101]⟩ : ByteArray)] : List ByteArray)).all (setOk 1) = true := by kernel_rfl
theorem sets_up : (([(⟨#[65, 69, 83]⟩ : ByteArray), (⟨#[88, 69, 84, 65]⟩ : ByteArray), (⟨#[83, 77, 73, 84, 89, 65]⟩ : ByteArray), (⟨#[67, 74, 65, 88]⟩ : ByteArray), (⟨#[65, 78, 78, 69]⟩ : ByteArray)] : List ByteArray)).all (setOk 2) = true := by kernel_rfl
theorem name_j0 (nums : List Int) {c : Int} (hc : c = 1 ∨ c = 2) {set : ByteArray} (hs : setOk c set = true) {k : Nat} (hk : 10 ≤ k) (a s : Int) (ha : 0 ≤ a) : ∃ r a' s', wayzgoosekit_NameOf.j0 k 4 set nums a s = some (r, a', s') ∧ NameIs 4 r ∧ 0 ≤ a' := by
 obtain ⟨k, rfl⟩ : ∃ q, k = q + 1 := ⟨k - 1, by omega⟩
 obtain ⟨n, a1, s1, h1, h2, h3, h4⟩ := From_ok nums a s 1 4 ha (by omega) (by omega) (by omega)
 obtain ⟨r, a2, s2, h5, h6, h7, h8⟩ := name_loop nums hs n.toNat k (⟨#[]⟩ : ByteArray) n a1 s1 (by omega) (by omega) (by omega) h4 (by show 0 + n.toNat ≤ 20; omega) (fun b hb => by simp at hb)
 have e0 : (⟨#[]⟩ : ByteArray).size = 0 := rfl
 rw [wayzgoosekit_NameOf.j0, show mn 4 6 = 4 by unfold mn; rfl, h1, Option.bind_some]
 exact ⟨r, a2, s2, h5, ⟨by omega, by omega, c, hc, h7⟩, h8⟩
theorem NameOf_ok (nums : List Int) {k : Nat} (hk : 10 ≤ k) (a s : Int) (ha : 0 ≤ a) : ∃ r a' s', wayzgoosekit_NameOf.f k nums a s 4 = some (r, a', s') ∧ NameIs 4 r ∧ 0 ≤ a' := by
 obtain ⟨x1, a1, s1, h1, hm1, ha1⟩ := Word_ok nums a s (([(⟨#[97, 101, 115]⟩ : ByteArray), (⟨#[115, 104, 101, 116, 97]⟩ : ByteArray), (⟨#[115, 109, 105, 116, 121, 104, 97]⟩ : ByteArray), (⟨#[99, 104, 106, 97]⟩ : ByteArray), (⟨#[97, 110, 110, 101]⟩ : ByteArray)] : List ByteArray)) ha (by simp) (by simp)
 obtain ⟨b, a2, s2, h2, ha2⟩ := Once_ok nums a1 s1 3 ha1 (by omega) (by omega)
 obtain ⟨x3, a3, s3, h3, hm3, ha3⟩ := Word_ok nums a2 s2 (([(⟨#[65, 69, 83]⟩ : ByteArray), (⟨#[88, 69, 84, 65]⟩ : ByteArray), (⟨#[83, 77, 73, 84, 89, 65]⟩ : ByteArray), (⟨#[67, 74, 65, 88]⟩ : ByteArray), (⟨#[65, 78, 78, 69]⟩ : ByteArray)] : List ByteArray)) ha2 (by simp) (by simp)
 unfold wayzgoosekit_NameOf.f
 rw [h1, Option.bind_some]
 simp only [h2, Option.bind_some]
 cases b with
 | true =>
  rw [if_pos rfl, h3, Option.bind_some]
  exact name_j0 nums (.inr rfl) (List.all_eq_true.1 sets_up x3 hm3) hk a3 s3 ha3
 | false =>
  rw [if_neg (by simp)]
  exact name_j0 nums (.inl rfl) (List.all_eq_true.1 sets_low x1 hm1) hk a2 s2 ha2
theorem names_loop (nums : List Int) : ∀ (m k : Nat) (l : List ByteArray) (i a s : Int), i = m → l.length + m ≤ 4 → 2 * m + 20 ≤ k → 0 ≤ a → (∀ x ∈ l, NameIs 4 x) →
  ∃ r a' s', wayzgoosekit_NamesOf.l0 k 4 l i nums a s = some (r, a', s') ∧ r.length ≤ 4 ∧ (∀ x ∈ r, NameIs 4 x) ∧ 0 ≤ a' := by
 intro m
 induction m with
 | zero =>
  intro k l i a s hi hm hk ha hl
  obtain ⟨k, rfl⟩ : ∃ q, k = q + 1 := ⟨k - 1, by omega⟩
  rw [wayzgoosekit_NamesOf.l0, if_neg (by omega)]
  exact ⟨_, _, _, rfl, by omega, hl, ha⟩
 | succ m ih =>
  intro k l i a s hi hm hk ha hl
  obtain ⟨k, rfl⟩ : ∃ q, k = q + 2 := ⟨k - 2, by omega⟩
  have ew : wrap64 (i - 1) = i - 1 := by unfold wrap64; omega
  have more : ∀ (x : ByteArray) (a s : Int), NameIs 4 x → 0 ≤ a → ∃ r a' s', wayzgoosekit_NamesOf.l0 k 4 (l ++ [x]) (i - 1) nums a s = some (r, a', s') ∧ r.length ≤ 4 ∧ (∀ x ∈ r, NameIs 4 x) ∧ 0 ≤ a' := fun x a s hx ha =>
   ih k (l ++ [x]) (i - 1) a s (by omega) (by simp; omega) (by omega) ha (fun y hy => by
    rcases List.mem_append.1 hy with hy | hy
    ·exact hl y hy
    ·rw [List.mem_singleton.1 hy]
     exact hx)
  obtain ⟨x, a1, s1, h1, hx, ha1⟩ := NameOf_ok nums (k := k + 1) (by omega) a s ha
  have jok : ∀ (b : Bool) (a s : Int), 0 ≤ a → (b = true → 1 ≤ l.length) → ∃ r a' s', wayzgoosekit_NamesOf.j1 (k + 1) 4 l i x b nums a s = some (r, a', s') ∧ r.length ≤ 4 ∧ (∀ x ∈ r, NameIs 4 x) ∧ 0 ≤ a' := by
   intro b a s ha hb
   rw [wayzgoosekit_NamesOf.j1, ew]
   cases b with
   | false =>
    rw [if_neg (by simp), if_pos (by omega)]
    exact more x a s hx ha
   | true =>
    have hl1 := hb rfl
    obtain ⟨j, a2, s2, h2, j0, j1, ha2⟩ := To_ok nums a s ((l.length : Int) - 1) ha (by omega) (by omega)
    have hy := hl _ (rd_mem l j j0 (by omega))
    rw [if_pos rfl, show wrap64 ((l.length : Int) - 1) = (l.length : Int) - 1 by unfold wrap64; omega, h2, Option.bind_some]
    simp only
    rw [if_pos j0, if_pos (by omega)]
    generalize rdOf ByteArray.empty l j = y at hy ⊢
    have hy1 := hy.1
    have hy2 := hy.2.1
    rw [if_pos (by omega)]
    by_cases c1 : bt y 0 ≥ 97
    ·rw [if_pos c1]
     by_cases c2 : (y.size : Int) > 1
     ·rw [if_pos c2]
      obtain ⟨b3, a3, s3, h3, ha3⟩ := Once_ok nums a2 s2 2 ha2 (by omega) (by omega)
      rw [h3, Option.bind_some]
      simp only
      cases b3 with
      | false =>
       rw [if_neg (by simp), if_pos (by omega)]
       exact more y a3 s3 hy ha3
      | true =>
       obtain ⟨p, a4, s4, h4, p0, p1, ha4⟩ := To_ok nums a3 s3 ((y.size : Int) - 1) ha3 (by omega) (by omega)
       have ep : wrap64 (p + 1) = p + 1 := by unfold wrap64; omega
       have ep2 : (p + 1).toNat = p.toNat + 1 := by omega
       have z1 := ext_size y 0 p.toNat (by omega) (by omega)
       have z2 := ext_size y (p.toNat + 1) y.size (by omega) (by omega)
       rw [if_pos rfl, show wrap64 ((y.size : Int) - 1) = (y.size : Int) - 1 by unfold wrap64; omega, h4, Option.bind_some]
       simp only [ep, ep2]
       rw [if_pos p0, if_pos (by omega), if_pos (by omega), if_pos (by omega), if_pos (by omega), if_pos (by omega)]
       refine more _ a4 s4 ⟨by rw [app_size]; omega, by rw [app_size]; omega, ?_⟩ ha4
       obtain ⟨_, _, c, hc, hcb⟩ := hy
       refine ⟨c, hc, fun b hb => ?_⟩
       rw [app_data] at hb
       rcases List.mem_append.1 hb with hb | hb
       ·exact hcb b (ext_mem hb)
       ·exact hcb b (ext_mem hb)
     ·rw [if_neg c2, if_pos (by omega)]
      exact more y a2 s2 hy ha2
    ·rw [if_neg c1, if_pos (by omega)]
     exact more y a2 s2 hy ha2
  rw [wayzgoosekit_NamesOf.l0, if_pos (by omega), h1, Option.bind_some]
  simp only
  by_cases c : (l.length : Int) > 0
  ·rw [if_pos c]
   obtain ⟨b, a2, s2, h2, ha2⟩ := Once_ok nums a1 s1 3 ha1 (by omega) (by omega)
   rw [h2, Option.bind_some]
   exact jok b a2 s2 ha2 (fun _ => by omega)
  ·rw [if_neg c]
   exact jok false a1 s1 ha1 (fun h => by cases h)
theorem NamesOf_ok (nums : List Int) {k : Nat} (hk : 40 ≤ k) (a s : Int) (ha : 0 ≤ a) : ∃ r a' s', wayzgoosekit_NamesOf.f k nums a s 4 4 = some (r, a', s') ∧ r.length ≤ 4 ∧ (∀ x ∈ r, NameIs 4 x) ∧ 0 ≤ a' := by
 obtain ⟨n, a1, s1, h1, h2, h3, h4⟩ := To_ok nums a s 4 ha (by omega) (by omega)
 unfold wayzgoosekit_NamesOf.f
 rw [h1, Option.bind_some]
 exact names_loop nums n.toNat k [] n a1 s1 (by omega) (by simp; omega) (by omega) h4 (fun x hx => by simp at hx)
/-- A line of letters of the first alphabet. -/
def LowIs (s : ByteArray) : Prop := (∀ b ∈ s.data.toList, isLo b.toNat = true) ∧ 1 ≤ s.size
theorem LowIs.name {s : ByteArray} (h : LowIs s) (h2 : s.size ≤ 6) : NameIs 6 s := ⟨h.2, h2, 1, .inl rfl, fun b hb => (low_sound (h.1 b hb)).2⟩
theorem LowIs.key {s : ByteArray} (h : LowIs s) : nkey s = s := by
 apply ByteArray.ext
 apply Array.ext'
 rw [nkey_data, keyL_same h.1]
theorem checked_two (l : List ByteArray) (hn : l.length ≤ 6) (hl : ∀ s ∈ l, LowIs s) : ∀ (m k : Nat) (i : Int), 0 ≤ i → (l.length : Int) - i = m → m < k →
  name_checked.l0 k l (l.length : Int) i = some 10 ∨ (name_checked.l0 k l (l.length : Int) i = some 0 ∧ ∀ s ∈ l.drop i.toNat, s.size ≤ 6) := by
 intro m
 induction m with
 | zero =>
  intro k i h0 hm hk
  obtain ⟨k, rfl⟩ : ∃ q, k = q + 1 := ⟨k - 1, by omega⟩
  rw [name_checked.l0, if_neg (by omega), List.drop_eq_nil_of_le (by omega)]
  exact .inr ⟨rfl, fun s hs => by simp at hs⟩
 | succ m ih =>
  intro k i h0 hm hk
  obtain ⟨k, rfl⟩ : ∃ q, k = q + 1 := ⟨k - 1, by omega⟩
  have hx := hl _ (rd_mem l i h0 (by omega))
  rw [name_checked.l0, if_pos (by omega), if_pos h0, if_pos (by omega)]
  by_cases hz : (rdOf ByteArray.empty l i).size ≤ 6
  ·rw [Check_ok (hx.name hz), Option.bind_some, if_pos rfl, wrapS h0 (by omega)]
   rcases ih k (i + 1) (by omega) (by omega) (by omega) with h | ⟨h, h2⟩
   ·exact .inl h
   ·refine .inr ⟨h, fun s hs => ?_⟩
    have hd : l.drop i.toNat = rdOf ByteArray.empty l i :: l.drop (i.toNat + 1) := by
     rw [List.drop_eq_getElem_cons (by omega)]
     unfold rdOf
     rw [List.getD_eq_getElem?_getD, List.getElem?_eq_getElem (by omega)]
     rfl
    rw [hd] at hs
    rcases List.mem_cons.1 hs with rfl | hs
    ·exact hz
    ·exact h2 s (by rw [show (i + 1).toNat = i.toNat + 1 by omega]; exact hs)
  ·refine .inl ?_
   have hc : name_Check.f (rdOf ByteArray.empty l i) = some 10 := by
    unfold name_Check.f
    have := hx.2
    rw [if_neg (by omega), if_pos (by omega)]
   rw [hc, Option.bind_some, if_neg (by omega)]
theorem sorted_ok {l : List ByteArray} (hl : ∀ s ∈ l, LowIs s) (hz : ∀ s ∈ l, s.size ≤ 6) (hs : l.Pairwise (fun a b => a.toList ≤ b.toList)) : ∀ m, m < l.length ∨ m = 0 → sortedF l m = some true
 | 0, _ => rfl
 | m + 1, h => by
  have hm : m + 1 < l.length := by omega
  have g1 : atS l (m + 1) = l[m + 1] := by unfold atS; rw [List.getD_eq_getElem?_getD, List.getElem?_eq_getElem hm]; rfl
  have g2 : atS l m = l[m] := by unfold atS; rw [List.getD_eq_getElem?_getD, List.getElem?_eq_getElem (by omega)]; rfl
  have m1 : l[m + 1] ∈ l := List.getElem_mem _
  have m2 : l[m] ∈ l := List.getElem_mem _
  obtain ⟨c, hc, _, _, he⟩ := cmpN_ok ((hl _ m1).name (hz _ m1)) ((hl _ m2).name (hz _ m2))
  have he2 := he (hl _ m1).1 (hl _ m2).1
  rw [(hl _ m1).key, (hl _ m2).key] at he2
  have hle := List.pairwise_iff_getElem.1 hs m (m + 1) (by omega) hm (by omega)
  unfold sortedF
  rw [g1, g2, hc, Option.bind_some, if_neg]
  ·exact sorted_ok hl hz hs m (.inl (by omega))
  ·rw [he2]
   unfold cmpS
   rw [if_neg (List.not_lt.2 hle)]
   split <;> omega
theorem Wrong_ok {l : List ByteArray} (hn : l.length ≤ 6) (hl : ∀ s ∈ l, LowIs s) (hs : l.Pairwise (fun a b => a.toList ≤ b.toList)) : ∃ e, name_Wrong.f l = some ([], e) ∧ (e = 0 ∨ e = 10) := by
 unfold name_Wrong.f name_listed.f name_checked.f
 rw [if_neg (by omega)]
 rcases checked_two l hn hl l.length 40 0 (by omega) (by omega) (by omega) with h | ⟨h, hz⟩
 ·rw [h]
  exact ⟨10, rfl, .inr rfl⟩
 ·have hz2 : ∀ s ∈ l, s.size ≤ 6 := by simpa using hz
  have hcond : l.length ≤ 6 ∧ cmpAll l = true ∧ sortedF l (l.length - 1) = some true := by
   refine ⟨hn, List.all_eq_true.2 fun x hx => List.all_eq_true.2 fun y hy => ?_, sorted_ok hl hz2 hs _ (by omega)⟩
   obtain ⟨c, hc, _⟩ := cmpN_ok ((hl x hx).name (hz2 x hx)) ((hl y hy).name (hz2 y hy))
   rw [hc]
   rfl
  refine ⟨0, ?_, .inl rfl⟩
  rw [h, Option.bind_some, Option.bind_some, if_pos rfl, if_pos hcond]
end Go.Proofs.YteoknahabkoknaaGreatDoor.P
namespace Go.Proofs.YteoknahabkoknaaGreatDoor.P
open Go.RowKit Go.Proofs.YteoknahabkoknaaGreatDoorW.PrintWords Go.Proofs.YteoknahabkoknaaGreatDoorW.PrintLast
set_option linter.unusedVariables false
set_option linter.unusedSimpArgs false
/- Names sorted: the keys in their order; a name that comes. -/
/-- The key of the name of a list with a number. -/
def keyI (l : List ByteArray) (a : Int) : List UInt8 := (nkey (rdOf ByteArray.empty l a)).toList
theorem getD_swap (d : List Int) (j p : Nat) (h : j + 1 < d.length) : (swapD d j).getD p 0 = if p = j then d.getD (j + 1) 0 else if p = j + 1 then d.getD j 0 else d.getD p 0 := by
 unfold swapD
 simp only [List.getD_eq_getElem?_getD, List.getElem?_set, List.length_set]
 by_cases h1 : p = j
 ·subst h1
  rw [if_pos rfl, if_pos rfl, if_pos (by omega)]
  simp
 ·rw [if_neg (fun e => h1 e.symm), if_neg h1]
  by_cases h2 : p = j + 1
  ·subst h2
   rw [if_pos rfl, if_pos rfl, if_pos h]
   simp
  ·rw [if_neg (fun e => h2 e.symm), if_neg h2]
theorem swap_perm (d : List Int) (j : Nat) (h : j + 1 < d.length) : (swapD d j).Perm d := by
 have e : d = d.take j ++ (d[j] :: d[j + 1] :: d.drop (j + 2)) := by
  rw [← List.drop_eq_getElem_cons h, ← List.drop_eq_getElem_cons (by omega), List.take_append_drop]
 have e2 : swapD d j = d.take j ++ (d[j + 1] :: d[j] :: d.drop (j + 2)) := by
  have hl : (d.take j).length = j := by rw [List.length_take]; omega
  unfold swapD
  have g1 : d.getD j 0 = d[j] := by rw [List.getD_eq_getElem?_getD, List.getElem?_eq_getElem (by omega)]; rfl
  have g2 : d.getD (j + 1) 0 = d[j + 1] := by rw [List.getD_eq_getElem?_getD, List.getElem?_eq_getElem h]; rfl
  rw [g1, g2]
  generalize d[j] = x at *
  generalize d[j + 1] = y at *
  generalize d.take j = A at *
  generalize d.drop (j + 2) = C at *
  subst e
  subst hl
  simp
 rw [e2]
 exact ((List.Perm.swap _ _ _).append_left _).trans (by rw [← e])
theorem inner_ok {l : List ByteArray} (hl : ∀ s ∈ l, NameIs 6 s) (i : Nat) : ∀ (j : Nat) (d : List Int), InL l d → j ≤ i → i < d.length → (∀ p q, p < q → q ≤ i → q ≠ j → keyI l (d.getD p 0) ≤ keyI l (d.getD q 0)) →
  ∃ d', innerF l d j = some d' ∧ d'.Perm d ∧ ∀ p q, p < q → q ≤ i → keyI l (d'.getD p 0) ≤ keyI l (d'.getD q 0)
 | 0, d, _, _, _, h => ⟨d, rfl, List.Perm.refl _, fun p q h1 h2 => h p q h1 h2 (by omega)⟩
 | j + 1, d, hin, hji, hi, h => by
  have mem : ∀ q, q < d.length → NameIs 6 (rdOf ByteArray.empty l (d.getD q 0)) := fun q hq => by
   have h1 := hin.get (q : Int) (by omega) (by omega)
   have h2 : rdOf 0 d (q : Int) = d.getD q 0 := rfl
   rw [h2] at h1
   exact hl _ (rd_mem l _ h1.1 h1.2)
  obtain ⟨c, hc, c1, c2, _⟩ := cmpN_ok (mem (j + 1) (by omega)) (mem j (by omega))
  unfold innerF cmpI
  rw [hc]
  simp only [Option.bind_some]
  by_cases h0 : c < 0
  ·rw [if_pos h0]
   obtain ⟨d', h1, h2, h3⟩ := inner_ok hl i j (swapD d j) (hin.swap j (by omega)) (by omega) (by unfold swapD; simpa using hi) (by
    intro p q hpq hqi hqj
    rw [getD_swap d j p (by omega), getD_swap d j q (by omega), if_neg hqj]
    by_cases e1 : q = j + 1
    ·subst e1
     rw [if_pos rfl]
     by_cases e2 : p = j
     ·rw [if_pos e2]
      exact c1 h0
     ·rw [if_neg e2, if_neg (by omega)]
      exact h p j (by omega) (by omega) (by omega)
    ·rw [if_neg e1]
     by_cases e2 : p = j
     ·rw [if_pos e2]
      exact h (j + 1) q (by omega) hqi e1
     ·rw [if_neg e2]
      by_cases e3 : p = j + 1
      ·rw [if_pos e3]
       exact h j q (by omega) hqi e1
      ·rw [if_neg e3]
       exact h p q hpq hqi e1)
   exact ⟨d', h1, h2.trans (swap_perm d j (by omega)), h3⟩
  ·rw [if_neg h0]
   refine ⟨d, rfl, List.Perm.refl _, fun p q hpq hqi => ?_⟩
   by_cases e1 : q = j + 1
   ·subst e1
    have h4 : keyI l (d.getD j 0) ≤ keyI l (d.getD (j + 1) 0) := c2 h0
    by_cases e2 : p = j
    ·rw [e2]
     exact h4
    ·exact List.le_trans (h p j (by omega) (by omega) (by omega)) h4
   ·exact h p q hpq hqi e1
theorem InL.perm {l : List ByteArray} {d d' : List Int} (h : InL l d) (hp : d'.Perm d) : InL l d' := fun x hx => h x (hp.mem_iff.1 hx)
theorem outer_ok {l : List ByteArray} (hl : ∀ s ∈ l, NameIs 6 s) : ∀ (m : Nat) (d : List Int) (i : Nat), InL l d → i + m ≤ d.length → (∀ p q, p < q → q < i → keyI l (d.getD p 0) ≤ keyI l (d.getD q 0)) →
  ∃ d', outerF l m d i = some d' ∧ d'.Perm d ∧ ∀ p q, p < q → q < i + m → keyI l (d'.getD p 0) ≤ keyI l (d'.getD q 0)
 | 0, d, i, _, _, h => ⟨d, rfl, List.Perm.refl _, fun p q h1 h2 => h p q h1 (by omega)⟩
 | m + 1, d, i, hin, hm, h => by
  obtain ⟨d1, h1, h2, h3⟩ := inner_ok hl i i d hin (Nat.le_refl _) (by omega) (fun p q a b c => h p q a (by omega))
  obtain ⟨d2, h4, h5, h6⟩ := outer_ok hl m d1 (i + 1) (hin.perm h2) (by rw [h2.length_eq]; omega) (fun p q a b => h3 p q a (by omega))
  unfold outerF
  rw [h1]
  simp only [Option.bind_some]
  exact ⟨d2, h4, h5.trans h2, fun p q a b => h6 p q a (by omega)⟩
theorem checked_loop (l : List ByteArray) (hn : l.length ≤ 6) (hl : ∀ s ∈ l, NameIs 6 s) : ∀ (m k : Nat) (i : Int), 0 ≤ i → (l.length : Int) - i = m → m < k → name_checked.l0 k l (l.length : Int) i = some 0 := by
 intro m
 induction m with
 | zero =>
  intro k i h0 hm hk
  obtain ⟨k, rfl⟩ : ∃ q, k = q + 1 := ⟨k - 1, by omega⟩
  rw [name_checked.l0, if_neg (by omega)]
 | succ m ih =>
  intro k i h0 hm hk
  obtain ⟨k, rfl⟩ : ∃ q, k = q + 1 := ⟨k - 1, by omega⟩
  rw [name_checked.l0, if_pos (by omega), if_pos h0, if_pos (by omega), Check_ok (hl _ (rd_mem l i h0 (by omega))), Option.bind_some, if_pos rfl, wrapS h0 (by omega)]
  exact ih k (i + 1) (by omega) (by omega) (by omega)
theorem listed_ok {l : List ByteArray} (hn : l.length ≤ 6) (hl : ∀ s ∈ l, NameIs 6 s) {k : Nat} (hk : 10 ≤ k) : name_listed.f k l = some 0 := by
 unfold name_listed.f name_checked.f
 rw [if_neg (by omega), checked_loop l hn hl l.length k 0 (by omega) (by omega) (by omega)]
 rfl
theorem getD_get (d : List Int) (p : Nat) (h : p < d.length) : d.getD p 0 = d[p] := by rw [List.getD_eq_getElem?_getD, List.getElem?_eq_getElem h]; rfl
theorem Sort_ok {l : List ByteArray} (h1 : 1 ≤ l.length) (hn : l.length ≤ 6) (hl : ∀ s ∈ l, NameIs 6 s) : ∃ d, name_Sort.f l = some (d, 0) ∧ d.Perm (upTo l.length) ∧ d.Pairwise (fun a b => keyI l a ≤ keyI l b) := by
 obtain ⟨d, h2, h3, h4⟩ := outer_ok hl (l.length - 1) (upTo l.length) 1 (upTo_inL l) (by rw [upTo_length]; omega) (fun p q a b => by omega)
 refine ⟨d, ?_, h3, ?_⟩
 ·unfold name_Sort.f
  rw [listed_ok hn hl (by omega), Option.bind_some, if_pos rfl, if_pos ⟨h1, by omega⟩, h2]
  rfl
 ·have hlen : d.length = l.length := by rw [h3.length_eq, upTo_length]
  rw [List.pairwise_iff_getElem]
  intro p q hp hq hpq
  have := h4 p q hpq (by omega)
  rw [getD_get d p hp, getD_get d q hq] at this
  exact this
theorem keyed_loop {l : List ByteArray} (hl : ∀ s ∈ l, NameIs 6 s) {d : List Int} (hd : InL l d) (hn : d.length ≤ 6) : ∀ (m k : Nat) (i : Int) (acc : List ByteArray), 0 ≤ i → (d.length : Int) - i = m → 2 * m < k → acc.length ≤ 6 + i.toNat →
  wayzgoosetop_keyed.l0 k l d acc i = some (acc ++ (d.drop i.toNat).map (fun a => nkey (rdOf ByteArray.empty l a)), true) := by
 intro m
 induction m with
 | zero =>
  intro k i acc h0 hm hk ha
  obtain ⟨k, rfl⟩ : ∃ q, k = q + 1 := ⟨k - 1, by omega⟩
  rw [wayzgoosetop_keyed.l0, if_neg (by omega), List.drop_eq_nil_of_le (by omega)]
  simp
 | succ m ih =>
  intro k i acc h0 hm hk ha
  obtain ⟨k, rfl⟩ : ∃ q, k = q + 2 := ⟨k - 2, by omega⟩
  have hg := hd.get i h0 (by omega)
  have hrd : rd d i = rdOf 0 d i := rfl
  have hdrop : d.drop i.toNat = rdOf 0 d i :: d.drop (i.toNat + 1) := by
   rw [List.drop_eq_getElem_cons (by omega)]
   unfold rdOf
   rw [List.getD_eq_getElem?_getD, List.getElem?_eq_getElem (by omega)]
   rfl
  rw [wayzgoosetop_keyed.l0, if_pos (by omega), if_pos h0, hrd, if_neg (by omega), wayzgoosetop_keyed.j2, if_neg (by simp; omega), if_pos h0, if_pos (by omega), hrd, if_pos (by omega), if_pos (by omega), Key_ok (hl _ (rd_mem l _ hg.1 hg.2)), Option.bind_some, if_pos rfl, if_pos (by omega), wrapS h0 (by omega),
   ih k (i + 1) _ (by omega) (by omega) (by omega) (by simp; omega), hdrop, show (i + 1).toNat = i.toNat + 1 by omega]
  simp
theorem keyed_ok {l : List ByteArray} (h1 : 1 ≤ l.length) (hn : l.length ≤ 6) (hl : ∀ s ∈ l, NameIs 6 s) {k : Nat} (hk : 30 ≤ k) : ∃ ks, wayzgoosetop_keyed.f k l = some (ks, true) ∧ ks.Perm (l.map nkey) ∧ ks.Pairwise (fun a b => a.toList ≤ b.toList) := by
 obtain ⟨d, hs, hp, ho⟩ := Sort_ok h1 hn hl
 have hlen : d.length = l.length := by rw [hp.length_eq, upTo_length]
 obtain ⟨k, rfl⟩ : ∃ q, k = q + 1 := ⟨k - 1, by omega⟩
 refine ⟨d.map (fun a => nkey (rdOf ByteArray.empty l a)), ?_, ?_, ?_⟩
 ·unfold wayzgoosetop_keyed.f
  rw [hs, Option.bind_some, if_pos rfl, wayzgoosetop_keyed.j0, if_neg (by simp; omega), keyed_loop hl ((upTo_inL l).perm hp) (by omega) d.length k 0 [] (by omega) (by omega) (by omega) (by simp)]
  simp
 ·refine (hp.map _).trans ?_
  have e : (upTo l.length).map (fun a => nkey (rdOf ByteArray.empty l a)) = l.map nkey := by
   apply List.ext_getElem
   ·simp [upTo]
   ·intro i h2 h3
    simp only [upTo, List.getElem_map, List.getElem_range]
    unfold rdOf
    simp only [List.length_map] at h3
    rw [show (Int.ofNat i).toNat = i from rfl, List.getD_eq_getElem?_getD, List.getElem?_eq_getElem h3]
    rfl
  rw [e]
 ·rw [List.pairwise_map]
  exact ho
/-- A line put where it belongs. -/
def insB (x : ByteArray) : List ByteArray → List ByteArray
 | [] => [x]
 | h :: t => if x.toList ≤ h.toList then x :: h :: t else h :: insB x t
theorem insB_split (x : ByteArray) : ∀ l, ∃ p q, l = p ++ q ∧ insB x l = p ++ x :: q
 | [] => ⟨[], [], rfl, rfl⟩
 | h :: t => by
  unfold insB
  split
  ·exact ⟨[], h :: t, rfl, rfl⟩
  ·obtain ⟨p, q, e1, e2⟩ := insB_split x t
   exact ⟨h :: p, q, by rw [e1]; rfl, by rw [e2]; rfl⟩
theorem insB_perm (x : ByteArray) : ∀ l, (insB x l).Perm (x :: l)
 | [] => List.Perm.refl _
 | h :: t => by
  unfold insB
  split
  ·exact List.Perm.refl _
  ·exact ((insB_perm x t).cons h).trans (List.Perm.swap _ _ _)
theorem insB_sorted (x : ByteArray) : ∀ l : List ByteArray, l.Pairwise (fun a b => a.toList ≤ b.toList) → (insB x l).Pairwise (fun a b => a.toList ≤ b.toList)
 | [], _ => by simp [insB]
 | h :: t, hs => by
  unfold insB
  have h1 := List.pairwise_cons.1 hs
  split
  ·rename_i hx
   refine List.pairwise_cons.2 ⟨fun y hy => ?_, hs⟩
   rcases List.mem_cons.1 hy with rfl | hy
   ·exact hx
   ·exact List.le_trans hx (h1.1 y hy)
  ·rename_i hx
   refine List.pairwise_cons.2 ⟨fun y hy => ?_, insB_sorted x t h1.2⟩
   rcases List.mem_cons.1 ((insB_perm x t).mem_iff.1 hy) with rfl | hy
   ·exact (List.le_total h.toList y.toList).resolve_right hx
   ·exact h1.1 y hy
theorem one_more {old more : List ByteArray} {x : ByteArray} (h1 : old.Pairwise (fun a b => a.toList ≤ b.toList)) (h2 : more.Pairwise (fun a b => a.toList ≤ b.toList)) (h : more.Perm (x :: old)) : ∃ p q, old = p ++ q ∧ more = p ++ x :: q := by
 have e : more = insB x old := List.Perm.eq_of_pairwise (fun a b _ _ h1 h2 => toList_inj (List.le_antisymm h1 h2)) h2 (insB_sorted x old h1) (h.trans (insB_perm x old).symm)
 rw [e]
 exact insB_split x old
end Go.Proofs.YteoknahabkoknaaGreatDoor.P
namespace Go.Proofs.YteoknahabkoknaaGreatDoor.P
open Go.RowKit Go.Proofs.YteoknahabkoknaaGreatDoorW.PrintWords Go.Proofs.YteoknahabkoknaaGreatDoorW.PrintLast
set_option linter.unusedVariables false
set_option linter.unusedSimpArgs false
attribute [local go_sem ↓] Go.wp_at_zero Go.wp_at_succ
/- wayzgoosetop.TopCorrected, walked once, where the functions that it calls answer as it wants them to. -/
/-- How often a line is on a page, as the law counts. -/
def cntEq (s : ByteArray) (l : List ByteArray) : Nat := (l.filter fun x => x.toList == s.toList).length
/-- What the functions that the law calls answer. -/
structure TopFacts (k : Nat) (nums : List Int) (ns : List ByteArray) (n1 n2 : ByteArray) (a1 s1 a2 s2 a3 s3 : Int) (old more : List ByteArray) (m b : S42) (we f2 f3 f4 : Int) : Prop where
 e_ns : wayzgoosekit_NamesOf.f k nums 0 11400714819323198485 4 4 = some (ns, a1, s1)
 e_n1 : wayzgoosekit_NameOf.f k nums a1 s1 4 = some (n1, a2, s2)
 e_k1 : wayzgoosetop_keyed.f k (ns ++ [n1]) = some (old, true)
 e_n2 : wayzgoosekit_NameOf.f k nums a2 s2 4 = some (n2, a3, s3)
 e_k2 : wayzgoosetop_keyed.f k ((ns ++ [n1]) ++ [n2]) = some (more, true)
 e_len : ns.length ≤ 4 ∧ more.length ≤ 6 ∧ ∀ s ∈ more, s.size ≤ 10
 e_d1 : proof_Diff.f k old more = some ([m], 0)
 e_c1 : proof_Cost.f k old [m] = some (1, 0)
 e_fr : proof_Fresh.f [old] more = some (1, 0)
 e_d2 : proof_Diff.f k more old = some ([b], 0)
 e_c2 : proof_Cost.f k more [b] = some (0, 0)
 e_w : name_Wrong.f more = some ([], we) ∧ (we = 0 ∨ we = 10)
 e_l1 : proof_Look.f k [more, old] [] more = some (f2, f3, 0) ∧ (cntEq m.f2 more = 1 → f2 = 2) ∧ (1 < cntEq m.f2 more → f2 = 3)
 e_l2 : proof_Look.f k [old, more] [] old = some (1, f4, 0)
 e_l0 : f2 ≠ 0
 e_aw : wayzgoosetop_correctedAwake.f k = some true
theorem R_of_strings {w : World} {base b : Nat} {v : Value} {xs : List ByteArray} (h : w.ownsRow b 9 1 v xs.length (xs.map Value.string)) (hb : base ≤ b) : Kd.R Kd.string 9 w base (fun _ => True) v xs := Kd.R_lower (Kd.R_of_own (enc := Value.string) (h1 := fun _ => rfl) h (fun _ _ => trivial)) hb
theorem cells_new {w : World} {base g n c : Nat} {xs : List ByteArray} {o : Obj} (h : Kd.R Kd.string 9 w base (fun _ => True) (.slice (some ⟨g, 0, none⟩) n c) xs) (j : Nat) (u : Value) (hj : (xs.map Value.string)[j]? = some u) : (w.alloc o).cell? ((⟨g, 0, none⟩ : Addr).add j) = some u := by
 obtain ⟨hn, hc, hC⟩ := Kd.R_reads' h
 have hr := Kd.reads_of_C (enc := Value.string) (d := ByteArray.empty) (h1 := fun _ => rfl) (Kd.C_below hC (below_alloc (Below.refl _ _) o))
 rw [List.getElem?_map] at hj
 obtain ⟨x, hx, rfl⟩ := Option.map_eq_some_iff.1 hj
 have hlt := (List.getElem?_eq_some_iff.1 hx).1
 obtain ⟨ad, e, hcell⟩ := hr.2.2 (by omega)
 obtain rfl := Option.some.inj e
 rw [hcell j hlt, List.getD_eq_getElem?_getD, hx]
 rfl
theorem own_below {w W w1 : World} {o : Obj} {b e n : Nat} {v : Value} {cs : List Value} (ho : w1.ownsRow b e 1 v n cs) (hg : (W.alloc o).grownBy w1 none) (hb : Below w.heap.size w W) : Below w.heap.size w w1 :=
 (below_alloc hb o).grown hg (below_alloc hb o).size (fun k h => by cases h)
theorem top_more {w W w1 : World} {o : Obj} {v : Value} (xs : List ByteArray) (x : ByteArray) {n : Nat} (hn : xs.length = n) (h : w1.ownsRow (W.alloc o).heap.size 9 1 v (n + 1) (xs.map Value.string ++ [.string x])) (hb : w.heap.size ≤ W.heap.size) : Kd.R Kd.string 9 w1 w.heap.size (fun _ => True) v (xs ++ [x]) := by
 refine R_of_strings (b := (W.alloc o).heap.size) ?_ (by simp; omega)
 rw [List.length_append, List.length_singleton, hn, List.map_append]
 exact h
theorem R_alloc_grown {W w1 : World} {o : Obj} {base : Nat} {v : Value} {xs : List ByteArray} (h : Kd.R Kd.string 9 W base (fun _ => True) v xs) (hg : (W.alloc o).grownBy w1 none) : Kd.R Kd.string 9 w1 base (fun _ => True) v xs :=
 Kd.R_grown (Kd.R_alloc h o) hg (fun k _ => by simp)
theorem mark_cells {W : World} {base : Nat} {A : Option Addr} {c : Nat} {m : S42} (h : Kd.R k42 42 W base (fun _ => True) (.slice A 1 c) [m]) : ∃ g, A = some ⟨g, 0, none⟩ ∧ W.cell? ⟨g, 0, none⟩ = some (.int .i64 m.f0) ∧ W.cell? ⟨g, 2, none⟩ = some (.string m.f2) := by
 obtain ⟨g, cap, e, _⟩ := Kd.R_form h (by simp)
 injection e with e1 e2 e3
 subst e1
 obtain ⟨ad, e, h0, h1, h2⟩ := at_T42 (Kd.R_reads' h).2.2 0 (by omega) (by simp)
 obtain rfl := Option.some.inj e
 have em : rd_T42 [m] 0 = m := rfl
 rw [em] at h0 h2
 refine ⟨g, rfl, ?_, ?_⟩
 ·simpa [Addr.add] using h0
 ·simpa [Addr.add] using h2
theorem cntEq_snoc (s x : ByteArray) (l : List ByteArray) : cntEq s (l ++ [x]) = cntEq s l + if (x.toList == s.toList) = true then 1 else 0 := by
 unfold cntEq
 rw [List.filter_append, List.length_append]
 cases h : (x.toList == s.toList) <;> simp [h]
theorem cntEq_le (s : ByteArray) (l : List ByteArray) : cntEq s l ≤ l.length := List.length_filter_le _ _
theorem take_rd2 (l : List ByteArray) (k : Nat) (h : k < l.length) : l.take (k + 1) = l.take k ++ [l.getD k ByteArray.empty] := by
 rw [List.take_add_one, List.getD_eq_getElem?_getD, List.getElem?_eq_getElem h]
 rfl
theorem C_one {W : World} {A : Option Addr} {c : Nat} {l : List ByteArray} (h : Kd.C Kd.string W A l.length l) (hc : l.length ≤ c) : Kd.C (Kd.slice 9 Kd.string) (W.alloc (.cells #[.slice A l.length c] 25)) (some ⟨W.heap.size, 0, none⟩) ([l] : List (List ByteArray)).length [l] := by
 refine ⟨rfl, by simp, fun _ => ⟨_, rfl, fun j p hj => ?_⟩⟩
 cases j with
 | succ j => simp at hj
 | zero =>
  obtain rfl : l = p := by simpa using hj
  refine ⟨[.slice A l.length c], rfl, ⟨A, c, rfl, hc, Kd.C_below h (below_alloc (Below.refl _ _) _)⟩, fun i u hu => ?_⟩
  cases i with
  | succ i => simp at hu
  | zero =>
   have hu2 : Value.slice A l.length c = u := by simpa using hu
   rw [← hu2]
   exact (blk_cell (blk_new W _) 0).trans rfl
theorem C_two {W : World} {A B : Option Addr} {c d : Nat} {l r : List ByteArray} (h : Kd.C Kd.string W A l.length l) (hc : l.length ≤ c) (h2 : Kd.C Kd.string W B r.length r) (hd : r.length ≤ d) : Kd.C (Kd.slice 9 Kd.string) (W.alloc (.cells #[.slice A l.length c, .slice B r.length d] 25)) (some ⟨W.heap.size, 0, none⟩) ([l, r] : List (List ByteArray)).length [l, r] := by
 have hb := blk_new W (.cells #[.slice A l.length c, .slice B r.length d] 25)
 refine ⟨rfl, by simp, fun _ => ⟨_, rfl, fun j p hj => ?_⟩⟩
 match j with
 | 0 =>
  obtain rfl : l = p := by simpa using hj
  refine ⟨[.slice A l.length c], rfl, ⟨A, c, rfl, hc, Kd.C_below h (below_alloc (Below.refl _ _) _)⟩, fun i u hu => ?_⟩
  cases i with
  | succ i => simp at hu
  | zero =>
   have hu2 : Value.slice A l.length c = u := by simpa using hu
   rw [← hu2]
   exact (blk_cell hb 0).trans rfl
 | 1 =>
  obtain rfl : r = p := by simpa using hj
  refine ⟨[.slice B r.length d], rfl, ⟨B, d, rfl, hd, Kd.C_below h2 (below_alloc (Below.refl _ _) _)⟩, fun i u hu => ?_⟩
  cases i with
  | succ i => simp at hu
  | zero =>
   have hu2 : Value.slice B r.length d = u := by simpa using hu
   rw [← hu2]
   exact (blk_cell hb 1).trans rfl
 | j + 2 => simp at hj
theorem R_setn {α : Type} {d : Kd α} {e base : Nat} {ok : Nat → Prop} {W : World} {v : Value} {xs : List α} (hn : False) (h : d.R e W base ok v xs) (p : Addr) (u : Value) : d.R e (W.setCell p u) base ok v xs := hn.elim
set_option maxHeartbeats 8000000 in
set_option maxRecDepth 100000 in
theorem top_calls {k : Nat} {ns : List ByteArray} {n1 n2 : ByteArray} {a1 s1 a2 s2 a3 s3 : Int} {old more : List ByteArray} {m b : S42} {we f2 f3 f4 : Int} (A0 : Option Addr) (c0 : Nat) (l0 : List Int) (w : World) (hr0 : Kd.C (Kd.int .i64) w A0 l0.length l0) (hc0 : l0.length ≤ c0)
  (h : TopFacts k l0 ns n1 n2 a1 s1 a2 s2 a3 s3 old more m b we f2 f3 f4) :
  Calls Tryz.prog 3 #[.slice A0 l0.length c0] w fun e w' => e = .returned (.bool true) ∧ Below w.heap.size w w' := by
 have HR0 := Aside0.mk hr0
 have HC0 := Aside0.mk hc0
 have H := Aside0.mk h
 clear hr0 hc0 h
 go_enter Tryz.func3, Tryz.ntmps3
 go_upto_region 4 with (first
  | (go_at_call 4; refine (wayzgoosekit_NewDice.calls A0 c0 l0 l0 0 11400714819323198485 w w (Below.refl _ _) HR0.out HC0.out rfl).mono ?_; rintro e w1 ⟨g, rfl, hi, hb, hb2⟩; have HI := Aside0.mk hi; have HB := Aside0.mk hb; clear hi hb hb2)
  | (go_at_call 5; refine (wayzgoosekit_NamesOf.calls k g l0 0 11400714819323198485 4 4 ns a1 s1 w _ HI.out HB.out H.out.e_ns).mono ?_; rintro e w2 ⟨v2, rfl, hR2, hi, hb, hk⟩; have HI2 := Aside0.mk hi; have HB2 := Aside0.mk hb; have HR2 := Aside0.mk (Kd.R_lower hR2 HB.out.size); clear hi hb hk hR2)
  | (go_at_call 6; refine (wayzgoosekit_NameOf.calls k g l0 a1 s1 4 n1 a2 s2 w _ HI2.out HB2.out H.out.e_n1).mono ?_; rintro e w3 ⟨rfl, hi, hb, hk⟩; have HI3 := Aside0.mk hi; have HB3 := Aside0.mk hb; have HR3 := Aside0.mk (Kd.R_mono (Kd.R_keep (IsS50.apart HI2.out HR2.out (by decide)) hk (fun _ h => h.2)) (fun _ h => h.1)); clear hi hb hk)
  | (at_builtin; refine Kd.R_append Kd.string (w0 := w) w.heap.size rfl (.tmp 31) (.tmp 34) 25 9 (.string ⟨#[]⟩) 16 rfl Tryz.underlying25 info9 rfl (by decide) (by omega) v2 ns n1 [.string n1] (fun _ => True) (fun _ => False) rfl rfl rfl (fun _ hk => hk.elim) (fun _ _ => trivial) HR3.out HB3.out HB3.out.size (by have := H.out.e_len.1; omega) ?_; intro v3 w4 hR4 hb4 hg4 hat4; have HR4 := Aside0.mk hR4; have HB4 := Aside0.mk hb4; have HI4 := Aside0.mk (IsS50.grown HI3.out hg4 (IsS50.own_ne HI3.out HR3.out (by decide))); clear hR4 hb4 hg4 hat4)
  | (go_at_call 7; obtain ⟨A4, c4, rfl, hc4, hC4⟩ := Kd.R_reads HR4.out; refine (wayzgoosetop_keyed.calls k A4 c4 (ns ++ [n1]) old true _ hC4 hc4 H.out.e_k1).mono ?_; rintro e w5 ⟨v5, rfl, hR5, hb5⟩; have HR5 := Aside0.mk (Kd.R_lower hR5 HB4.out.size); have HB5 := Aside0.mk (HB4.out.trans (hb5.mono HB4.out.size)); have HI5 := Aside0.mk (IsS50.below HI4.out hb5); have HR6 := Aside0.mk (Kd.R_below HR4.out hb5); clear hR5 hb5 hC4)
  | go_in)
 obtain ⟨gl, cl, hvl, hgl1, hgl2, _⟩ := Kd.R_form HR6.out (by simp)
 injection hvl with hA hB hC
 subst hA
 subst hC
 clear hB
 have hlen : (ns ++ [n1]).length = ns.length + 1 := by simp
 obtain ⟨i9, hi9, hz0, hz1, hz2⟩ := info_parts info9
 obtain ⟨n, hn⟩ : ∃ n, ns.length + 1 = n := ⟨_, rfl⟩
 have hn5 : n ≤ 5 := by have := H.out.e_len.1; omega
 rw [hlen] at hc4 HR6
 rw [hn] at hc4 HR6 ⊢
 have HN : Aside0 ((ns ++ [n1]).length = n) := ⟨hlen.trans hn⟩
 clear hn hlen
 clear HR0 HC0 HI HB HI2 HB2 HR2 HI3 HB3 HR3 HR4 HI4
 go_region_held3 (fun w' => True) (first | go_keep | trivial)
  (first
   | (go_at_call 6; refine (wayzgoosekit_NameOf.calls k g l0 a2 s2 4 n2 a3 s3 w _ (IsS50.drew HI5.out) (below_drew1 HB5.out) H.out.e_n2).mono ?_; rintro e w6 ⟨rfl, hi, hb, hk⟩; have HB6 := Aside0.mk hb; have HR7 := Aside0.mk (Kd.R_mono (Kd.R_keep (IsS50.apart (IsS50.drew HI5.out) (Kd.R_drew HR5.out) (by decide)) hk (fun _ h => h.2)) (fun _ h => h.1)); have HR8 := Aside0.mk (Kd.R_mono (Kd.R_keep (IsS50.apart (IsS50.drew HI5.out) (Kd.R_drew HR6.out) (by decide)) hk (fun _ h => h.2)) (fun _ h => h.1)); clear hi hb hk)
   | (refine step_append_grows rfl (.tmp 47) (.tmp 50) 25 rfl 9 i9 (.string ⟨#[]⟩) 1 16 Tryz.underlying25 hi9 hz0 hz1 hz2 rfl (by decide) (some ⟨gl, 0, none⟩) n n ((ns ++ [n1]).map Value.string) (by rfl) (fun h => by cases h) (by rw [List.length_map, HN.out, Nat.mul_one]) (fun b hb j u hj => by cases hb; exact cells_new HR8.out j u hj) ⟨w6.heap.size, 0, none⟩ 1 1 [.string n2] (by rfl) rfl (cell_one_new _ _ _) (by simp [Value.oneCell']) (by omega) (by unfold maxLen; omega) (by omega) ?_; intro v7 w7 hown7 hg7; have hb7 := own_below hown7 hg7 HB6.out; have HB7 := Aside0.mk hb7; have HR9 := Aside0.mk (top_more (ns ++ [n1]) n2 HN.out hown7 HB6.out.size); have HR10 := Aside0.mk (R_alloc_grown HR7.out hg7); clear hown7 hg7 hb7)
   | (go_at_call 7; obtain ⟨A7, c7, rfl, hc7, hC7⟩ := Kd.R_reads HR9.out; refine (wayzgoosetop_keyed.calls k A7 c7 ((ns ++ [n1]) ++ [n2]) more true _ hC7 hc7 H.out.e_k2).mono ?_; rintro e w8 ⟨v8, rfl, hR11, hb8⟩; have HR11 := Aside0.mk (Kd.R_lower hR11 HB7.out.size); have HB8 := Aside0.mk (HB7.out.trans (hb8.mono HB7.out.size)); have HR12 := Aside0.mk (Kd.R_below HR10.out hb8); clear hR11 hb8 hC7))
 obtain ⟨A5, c5, rfl, hc5, _⟩ := Kd.R_reads HR12.out
 obtain ⟨A8, c8, rfl, hc8, _⟩ := Kd.R_reads HR11.out
 have HO := HR12
 have HM := HR11
 have HB := HB8
 have HC5 := Aside0.mk hc5
 have HC8 := Aside0.mk hc8
 have hml : more.length ≤ 6 := H.out.e_len.2.1
 clear HB4 HR5 HB5 HI5 HR6 HB6 HR7 HR8 HB7 HR9 HR10 HR12 HR11 HB8 hi9 hz0 hz1 hz2 hc5 hc8 hc4 hgl1 hgl2 hn5 HN
 go_wp2
 go_loopw [9] (fun v wr => wr = w8 ∧ ∃ i : Int, v = .int .i64 i ∧ 0 ≤ i ∧ i ≤ more.length) (fun v _ => more.length - (intOf v).toNat)
 case atStart => exact ⟨rfl, 0, rfl, by omega, by omega⟩
 case round =>
  obtain ⟨rfl, i, rfl, hi0, hi1⟩ := hrel
  by_cases hi : i < more.length
  ·obtain ⟨ad, rfl, hcell⟩ := Kd.at_string (Kd.R_reads' HM.out).2.2 i hi0 hi
   have hx : (rdOf ByteArray.empty more i).size ≤ 10 := by
    refine H.out.e_len.2.2 _ ?_
    unfold rdOf
    rw [List.getD_eq_getElem?_getD, List.getElem?_eq_getElem (by omega)]
    exact List.getElem_mem _
   generalize rdOf ByteArray.empty more i = x at *
   have hx2 : decide (10 < (x.size : Int)) = false := by simp; omega
   go_wp2
   -- BEHIND
   exact ⟨⟨trivial, i + 1, rfl, by omega, by omega⟩, by simp [intOf]; omega⟩
  ·have hD1 : Aside0 (∀ W, Kd.C Kd.string W A5 old.length old → Kd.C Kd.string W A8 more.length more → Calls Tryz.prog 9 #[Value.slice A5 old.length c5, Value.slice A8 more.length c8] W fun e w' => ∃ v, e = .returned (.tuple #[v, .int .i64 0]) ∧ Kd.R k42 42 w' W.heap.size (fun _ => True) v [m] ∧ Below W.heap.size W w') := ⟨fun W h1 h2 => proof_Diff.calls k A5 c5 old A8 c8 more [m] 0 W h1 HC5.out h2 HC8.out H.out.e_d1⟩
   have hD2 : Aside0 (∀ W, Kd.C Kd.string W A8 more.length more → Kd.C Kd.string W A5 old.length old → Calls Tryz.prog 9 #[Value.slice A8 more.length c8, Value.slice A5 old.length c5] W fun e w' => ∃ v, e = .returned (.tuple #[v, .int .i64 0]) ∧ Kd.R k42 42 w' W.heap.size (fun _ => True) v [b] ∧ Below W.heap.size W w') := ⟨fun W h1 h2 => proof_Diff.calls k A8 c8 more A5 c5 old [b] 0 W h1 HC8.out h2 HC5.out H.out.e_d2⟩
   have hF : Aside0 (∀ (G : Nat) (W : World), Kd.C (Kd.slice 9 Kd.string) W (some ⟨G, 0, none⟩) 1 [old] → Kd.C Kd.string W A8 more.length more → Calls Tryz.prog 11 #[.slice (some ⟨G, 0, none⟩) 1 1, Value.slice A8 more.length c8] W fun e w' => e = .returned (.tuple #[.int .i64 1, .int .i64 0]) ∧ Below W.heap.size W w') := ⟨fun G W h1 h2 => proof_Fresh.calls (some ⟨G, 0, none⟩) 1 [old] A8 c8 more 1 0 W h1 (Nat.le_refl _) h2 HC8.out H.out.e_fr⟩
   have hW : Aside0 (∀ W, Kd.C Kd.string W A8 more.length more → Calls Tryz.prog 12 #[Value.slice A8 more.length c8] W fun e w' => ∃ v, e = .returned (.tuple #[v, .int .i64 we]) ∧ Kd.R (Kd.int .i64) 3 w' W.heap.size (fun _ => True) v [] ∧ Below W.heap.size W w') := ⟨fun W h1 => name_Wrong.calls A8 c8 more [] we W h1 HC8.out H.out.e_w.1⟩
   go_upto_region 17 with (first
    | (go_at_call 9; (with_reducible refine (hD1.out _ ?s0 ?s1).mono ?_); (case s0 => exact (Kd.R_reads' (by (with_reducible repeat (first | apply Kd.R_alloc | apply Kd.R_drewN | apply Kd.R_drew | apply R_setn (by assumption))); exact HO.out)).2.2); (case s1 => exact (Kd.R_reads' (by (with_reducible repeat (first | apply Kd.R_alloc | apply Kd.R_drewN | apply Kd.R_drew | apply R_setn (by assumption))); exact HM.out)).2.2); rintro e w9 ⟨v9, rfl, hR, hb⟩; have n0_ := Aside0.mk (Kd.R_below (by (with_reducible repeat (first | apply Kd.R_alloc | apply Kd.R_drewN | apply Kd.R_drew | apply R_setn (by assumption))); exact HO.out) hb); have n1_ := Aside0.mk (Kd.R_below (by (with_reducible repeat (first | apply Kd.R_alloc | apply Kd.R_drewN | apply Kd.R_drew | apply R_setn (by assumption))); exact HM.out) hb); have nb_ := Aside0.mk (below_step (by repeat (first | (with_reducible first | exact HB.out | apply below_alloc | apply pw_below_drewN | apply below_drew1) | exact HB.out)) hb); have HX := Aside0.mk (Kd.R_lower hR (Below.size (by repeat (first | (with_reducible first | exact HB.out | apply below_alloc | apply pw_below_drewN | apply below_drew1) | exact HB.out)))); clear HO; clear HM; clear HB; have HO := n0_; have HM := n1_; have HB := nb_; clear n0_ n1_ nb_; clear hb hR; obtain ⟨Am, cm, rfl, hcm, _⟩ := Kd.R_reads HX.out; have HCM := Aside0.mk hcm; clear hcm; have hC1 : Aside0 (∀ W, Kd.C Kd.string W A5 old.length old → Kd.C k42 W Am 1 [m] → Calls Tryz.prog 10 #[Value.slice A5 old.length c5, .slice Am 1 cm] W fun e w' => e = .returned (.tuple #[.int .i64 1, .int .i64 0]) ∧ Below W.heap.size W w') := ⟨fun W h1 h2 => proof_Cost.calls k A5 c5 old Am cm [m] 1 0 W h1 HC5.out h2 HCM.out H.out.e_c1 (Nat.le_refl _)⟩; clear hD1)
    | (go_at_call 10; (with_reducible refine (hC1.out _ ?s0 ?s1).mono ?_); (case s0 => exact (Kd.R_reads' (by (with_reducible repeat (first | apply Kd.R_alloc | apply Kd.R_drewN | apply Kd.R_drew | apply R_setn (by assumption))); exact HO.out)).2.2); (case s1 => exact (Kd.R_reads' (by (with_reducible repeat (first | apply Kd.R_alloc | apply Kd.R_drewN | apply Kd.R_drew | apply R_setn (by assumption))); exact HX.out)).2.2); rintro e w10 ⟨rfl, hb⟩; have n0_ := Aside0.mk (Kd.R_below (by (with_reducible repeat (first | apply Kd.R_alloc | apply Kd.R_drewN | apply Kd.R_drew | apply R_setn (by assumption))); exact HO.out) hb); have n1_ := Aside0.mk (Kd.R_below (by (with_reducible repeat (first | apply Kd.R_alloc | apply Kd.R_drewN | apply Kd.R_drew | apply R_setn (by assumption))); exact HM.out) hb); have n2_ := Aside0.mk (Kd.R_below (by (with_reducible repeat (first | apply Kd.R_alloc | apply Kd.R_drewN | apply Kd.R_drew | apply R_setn (by assumption))); exact HX.out) hb); have nb_ := Aside0.mk (below_step (by repeat (first | (with_reducible first | exact HB.out | apply below_alloc | apply pw_below_drewN | apply below_drew1) | exact HB.out)) hb); clear HO; clear HM; clear HX; clear HB; have HO := n0_; have HM := n1_; have HX := n2_; have HB := nb_; clear n0_ n1_ n2_ nb_; clear hb ; clear hC1)
    | (go_at_call 11; (with_reducible refine (hF.out _ _ ?s0 ?s1).mono ?_); (case s0 => exact (C_one (Kd.R_reads' (by (with_reducible repeat (first | apply Kd.R_alloc | apply Kd.R_drewN | apply Kd.R_drew | apply R_setn (by assumption))); exact HO.out)).2.2 HC5.out)); (case s1 => exact (Kd.R_reads' (by (with_reducible repeat (first | apply Kd.R_alloc | apply Kd.R_drewN | apply Kd.R_drew | apply R_setn (by assumption))); exact HM.out)).2.2); rintro e w11 ⟨rfl, hb⟩; have n0_ := Aside0.mk (Kd.R_below (by (with_reducible repeat (first | apply Kd.R_alloc | apply Kd.R_drewN | apply Kd.R_drew | apply R_setn (by assumption))); exact HO.out) hb); have n1_ := Aside0.mk (Kd.R_below (by (with_reducible repeat (first | apply Kd.R_alloc | apply Kd.R_drewN | apply Kd.R_drew | apply R_setn (by assumption))); exact HM.out) hb); have n2_ := Aside0.mk (Kd.R_below (by (with_reducible repeat (first | apply Kd.R_alloc | apply Kd.R_drewN | apply Kd.R_drew | apply R_setn (by assumption))); exact HX.out) hb); have nb_ := Aside0.mk (below_step (by repeat (first | (with_reducible first | exact HB.out | apply below_alloc | apply pw_below_drewN | apply below_drew1) | exact HB.out)) hb); clear HO; clear HM; clear HX; clear HB; have HO := n0_; have HM := n1_; have HX := n2_; have HB := nb_; clear n0_ n1_ n2_ nb_; clear hb; clear hF)
    | (go_at_call 9; (with_reducible refine (hD2.out _ ?s0 ?s1).mono ?_); (case s0 => exact (Kd.R_reads' (by (with_reducible repeat (first | apply Kd.R_alloc | apply Kd.R_drewN | apply Kd.R_drew | apply R_setn (by assumption))); exact HM.out)).2.2); (case s1 => exact (Kd.R_reads' (by (with_reducible repeat (first | apply Kd.R_alloc | apply Kd.R_drewN | apply Kd.R_drew | apply R_setn (by assumption))); exact HO.out)).2.2); rintro e w12 ⟨v12, rfl, hR, hb⟩; have n0_ := Aside0.mk (Kd.R_below (by (with_reducible repeat (first | apply Kd.R_alloc | apply Kd.R_drewN | apply Kd.R_drew | apply R_setn (by assumption))); exact HO.out) hb); have n1_ := Aside0.mk (Kd.R_below (by (with_reducible repeat (first | apply Kd.R_alloc | apply Kd.R_drewN | apply Kd.R_drew | apply R_setn (by assumption))); exact HM.out) hb); have n2_ := Aside0.mk (Kd.R_below (by (with_reducible repeat (first | apply Kd.R_alloc | apply Kd.R_drewN | apply Kd.R_drew | apply R_setn (by assumption))); exact HX.out) hb); have nb_ := Aside0.mk (below_step (by repeat (first | (with_reducible first | exact HB.out | apply below_alloc | apply pw_below_drewN | apply below_drew1) | exact HB.out)) hb); have HY := Aside0.mk (Kd.R_lower hR (Below.size (by repeat (first | (with_reducible first | exact HB.out | apply below_alloc | apply pw_below_drewN | apply below_drew1) | exact HB.out)))); clear HO; clear HM; clear HX; clear HB; have HO := n0_; have HM := n1_; have HX := n2_; have HB := nb_; clear n0_ n1_ n2_ nb_; clear hb hR; obtain ⟨Ab, cb, rfl, hcb, _⟩ := Kd.R_reads HY.out; have HCB := Aside0.mk hcb; clear hcb; have hC2 : Aside0 (∀ W, Kd.C Kd.string W A8 more.length more → Kd.C k42 W Ab 1 [b] → Calls Tryz.prog 10 #[Value.slice A8 more.length c8, .slice Ab 1 cb] W fun e w' => e = .returned (.tuple #[.int .i64 0, .int .i64 0]) ∧ Below W.heap.size W w') := ⟨fun W h1 h2 => proof_Cost.calls k A8 c8 more Ab cb [b] 0 0 W h1 HC8.out h2 HCB.out H.out.e_c2 (Nat.le_refl _)⟩; clear hD2)
    | (go_at_call 10; (with_reducible refine (hC2.out _ ?s0 ?s1).mono ?_); (case s0 => exact (Kd.R_reads' (by (with_reducible repeat (first | apply Kd.R_alloc | apply Kd.R_drewN | apply Kd.R_drew | apply R_setn (by assumption))); exact HM.out)).2.2); (case s1 => exact (Kd.R_reads' (by (with_reducible repeat (first | apply Kd.R_alloc | apply Kd.R_drewN | apply Kd.R_drew | apply R_setn (by assumption))); exact HY.out)).2.2); rintro e w13 ⟨rfl, hb⟩; have n0_ := Aside0.mk (Kd.R_below (by (with_reducible repeat (first | apply Kd.R_alloc | apply Kd.R_drewN | apply Kd.R_drew | apply R_setn (by assumption))); exact HO.out) hb); have n1_ := Aside0.mk (Kd.R_below (by (with_reducible repeat (first | apply Kd.R_alloc | apply Kd.R_drewN | apply Kd.R_drew | apply R_setn (by assumption))); exact HM.out) hb); have n2_ := Aside0.mk (Kd.R_below (by (with_reducible repeat (first | apply Kd.R_alloc | apply Kd.R_drewN | apply Kd.R_drew | apply R_setn (by assumption))); exact HX.out) hb); have nb_ := Aside0.mk (below_step (by repeat (first | (with_reducible first | exact HB.out | apply below_alloc | apply pw_below_drewN | apply below_drew1) | exact HB.out)) hb); clear HO; clear HM; clear HX; clear HB; have HO := n0_; have HM := n1_; have HX := n2_; have HB := nb_; clear n0_ n1_ n2_ nb_; clear hb ; clear hC2)
    | go_in)
   rcases H.out.e_w.2 with hwe | hwe
   all_goals
    subst hwe
    go_upto_region 22 with (first
     | (go_at_call 12; (with_reducible refine (hW.out _ ?s0).mono ?_); (case s0 => exact (Kd.R_reads' (by (with_reducible repeat (first | apply Kd.R_alloc | apply Kd.R_drewN | apply Kd.R_drew | apply R_setn (by assumption))); exact HM.out)).2.2); rintro e w14 ⟨v14, rfl, hR, hb⟩; have n0_ := Aside0.mk (Kd.R_below (by (with_reducible repeat (first | apply Kd.R_alloc | apply Kd.R_drewN | apply Kd.R_drew | apply R_setn (by assumption))); exact HO.out) hb); have n1_ := Aside0.mk (Kd.R_below (by (with_reducible repeat (first | apply Kd.R_alloc | apply Kd.R_drewN | apply Kd.R_drew | apply R_setn (by assumption))); exact HM.out) hb); have n2_ := Aside0.mk (Kd.R_below (by (with_reducible repeat (first | apply Kd.R_alloc | apply Kd.R_drewN | apply Kd.R_drew | apply R_setn (by assumption))); exact HX.out) hb); have nb_ := Aside0.mk (below_step (by repeat (first | (with_reducible first | exact HB.out | apply below_alloc | apply pw_below_drewN | apply below_drew1) | exact HB.out)) hb); have HZ := Aside0.mk (Kd.R_lower hR (Below.size (by repeat (first | (with_reducible first | exact HB.out | apply below_alloc | apply pw_below_drewN | apply below_drew1) | exact HB.out)))); clear HO; clear HM; clear HX; clear HB; have HO := n0_; have HM := n1_; have HX := n2_; have HB := nb_; clear n0_ n1_ n2_ nb_; clear hb hR; obtain ⟨Aw, cw, rfl, hcw, _⟩ := Kd.R_reads HZ.out; clear hcw; clear hW)
     | go_in)

    obtain ⟨gm, rfl, hm0, hm2⟩ := mark_cells HX.out
    go_wp2
    go_loopw [23, 24] (fun v23 v24 wr => wr = w14 ∧ ∃ (i o : Int), v24 = .int .i64 i ∧ v23 = .int .i64 o ∧ 0 ≤ i ∧ i ≤ more.length ∧ 0 ≤ o ∧ o ≤ 6 ∧ Aside0 (o = (cntEq m.f2 (more.take i.toNat) : Nat))) (fun _ v24 _ => more.length - (intOf v24).toNat)
    case atStart => exact ⟨rfl, 0, 0, rfl, rfl, by omega, by omega, by omega, by omega, ⟨rfl⟩⟩
    case round =>
     obtain ⟨rfl, i, o, rfl, rfl, hi0, hi1, ho0, ho1, hoc⟩ := hrel
     by_cases hi : i < more.length
     ·obtain ⟨ad, rfl, hcell⟩ := Kd.at_string (Kd.R_reads' HM.out).2.2 i hi0 hi
      have hT : more.take (i.toNat + 1) = more.take i.toNat ++ [rdOf ByteArray.empty more i] := take_rd2 more i.toNat (by omega)
      generalize rdOf ByteArray.empty more i = x at *
      have HT := Aside0.mk hT
      clear hT
      have e1 : (i + 1).toNat = i.toNat + 1 := by omega
      have HO6 : Aside0 (o + (if (x.toList == m.f2.toList) = true then 1 else 0) ≤ 6) := ⟨by
       have hle := cntEq_le m.f2 (more.take (i.toNat + 1))
       rw [List.length_take, HT.out, cntEq_snoc] at hle
       rw [hoc.out]
       split at hle <;> simp_all <;> omega⟩
      have HNEW : Aside0 (o + (if (x.toList == m.f2.toList) = true then 1 else 0) = (cntEq m.f2 (more.take (i.toNat + 1)) : Nat)) := ⟨by
       rw [HT.out, cntEq_snoc, hoc.out]
       split <;> simp⟩
      clear hoc
      cases hxq : (x.toList == m.f2.toList) with
      | true =>
       have ho6 : o + 1 ≤ 6 := by have := HO6.out; rw [hxq] at this; simpa using this
       go_wp2
       exact ⟨⟨trivial, i + 1, o + 1, rfl, rfl, by omega, by omega, by omega, by omega, ⟨by rw [e1, ← HNEW.out, hxq]; rfl⟩⟩, by simp [intOf]; omega⟩
      | false =>
       go_wp2
       exact ⟨⟨trivial, i + 1, o, rfl, rfl, by omega, by omega, by omega, by omega, ⟨by rw [e1, ← HNEW.out, hxq]; simp⟩⟩, by simp [intOf]; omega⟩
     ·have hie : i = more.length := by omega
      have HOC : Aside0 (o = (cntEq m.f2 more : Nat)) := ⟨by have := hoc.out; rw [hie, Int.toNat_natCast, List.take_length] at this; exact this⟩
      clear hoc
      have hL1 : Aside0 (∀ (G : Nat) (W : World), Kd.C (Kd.slice 9 Kd.string) W (some ⟨G, 0, none⟩) 2 [more, old] → Kd.C Kd.string W A8 more.length more → Calls Tryz.prog 13 #[.slice (some ⟨G, 0, none⟩) 2 2, .slice none 0 0, Value.slice A8 more.length c8] W fun e w' => e = .returned (.tuple #[.agg #[.int .i64 f2, .int .i64 f3], .int .i64 0]) ∧ Below W.heap.size W w') := ⟨fun G W h1 h2 => proof_Look.calls k (some ⟨G, 0, none⟩) 2 [more, old] none 0 [] A8 c8 more f2 f3 0 W h1 (Nat.le_refl _) (Kd.C_nil _ _) (Nat.le_refl _) h2 HC8.out H.out.e_l1.1 (by decide) H.out.e_l0⟩
      have hL2 : Aside0 (∀ (G : Nat) (W : World), Kd.C (Kd.slice 9 Kd.string) W (some ⟨G, 0, none⟩) 2 [old, more] → Kd.C Kd.string W A5 old.length old → Calls Tryz.prog 13 #[.slice (some ⟨G, 0, none⟩) 2 2, .slice none 0 0, Value.slice A5 old.length c5] W fun e w' => e = .returned (.tuple #[.agg #[.int .i64 1, .int .i64 f4], .int .i64 0]) ∧ Below W.heap.size W w') := ⟨fun G W h1 h2 => proof_Look.calls k (some ⟨G, 0, none⟩) 2 [old, more] none 0 [] A5 c5 old 1 f4 0 W h1 (Nat.le_refl _) (Kd.C_nil _ _) (Nat.le_refl _) h2 HC5.out H.out.e_l2 (by decide) (by decide)⟩
      go_upto_region 29 with (first
       | (go_at_call 13; (with_reducible refine (hL1.out _ _ ?s0 ?s1).mono ?_); (case s0 => exact (C_two (Kd.R_reads' (by (with_reducible repeat (first | apply Kd.R_alloc | apply Kd.R_drewN | apply Kd.R_drew | apply R_setn (by assumption))); exact HM.out)).2.2 HC8.out (Kd.R_reads' (by (with_reducible repeat (first | apply Kd.R_alloc | apply Kd.R_drewN | apply Kd.R_drew | apply R_setn (by assumption))); exact HO.out)).2.2 HC5.out)); (case s1 => exact (Kd.R_reads' (by (with_reducible repeat (first | apply Kd.R_alloc | apply Kd.R_drewN | apply Kd.R_drew | apply R_setn (by assumption))); exact HM.out)).2.2); rintro e w15 ⟨rfl, hb⟩; have n0_ := Aside0.mk (Kd.R_below (by (with_reducible repeat (first | apply Kd.R_alloc | apply Kd.R_drewN | apply Kd.R_drew | apply R_setn (by assumption))); exact HO.out) hb); have n1_ := Aside0.mk (Kd.R_below (by (with_reducible repeat (first | apply Kd.R_alloc | apply Kd.R_drewN | apply Kd.R_drew | apply R_setn (by assumption))); exact HM.out) hb); have nb_ := Aside0.mk (below_step (by repeat (first | (with_reducible first | exact HB.out | apply below_alloc | apply pw_below_drewN | apply below_drew1) | exact HB.out)) hb); clear HO; clear HM; clear HB; have HO := n0_; have HM := n1_; have HB := nb_; clear n0_ n1_ nb_; clear hb; clear hL1)
       | go_in)
      have k1 : (w15.alloc (.cells #[.int .i64 f2, .int .i64 f3] 44)).cell? ⟨w15.heap.size, 0, none⟩ = some (.int .i64 f2) := (blk_cell (blk_new w15 (.cells #[.int .i64 f2, .int .i64 f3] 44)) 0).trans rfl
      have hO := Aside0.mk (Kd.R_alloc HO.out (.cells #[.int .i64 f2, .int .i64 f3] 44))
      have hM := Aside0.mk (Kd.R_alloc HM.out (.cells #[.int .i64 f2, .int .i64 f3] 44))
      have hB := Aside0.mk (below_alloc HB.out (.cells #[.int .i64 f2, .int .i64 f3] 44))
      clear HO HM HB
      have HO := hO
      have HM := hM
      have HB := hB
      clear hO hM hB
      generalize w15.alloc (.cells #[.int .i64 f2, .int .i64 f3] 44) = w20 at *
      generalize w15.heap.size = G at *
      have hcase : (o = 1 ∧ f2 = 2) ∨ (1 < o ∧ f2 = 3) ∨ (o < 1) := by
       have h1 := H.out.e_l1.2.1
       have h2 := H.out.e_l1.2.2
       have h3 := HOC.out
       rcases Int.lt_trichotomy o 1 with h | h | h
       ·exact .inr (.inr h)
       ·exact .inl ⟨h, h1 (by omega)⟩
       ·exact .inr (.inl ⟨h, h2 (by omega)⟩)
      have HAW : Aside0 (∀ W, Calls Tryz.prog 8 #[] W fun e w' => e = .returned (.bool true) ∧ Below W.heap.size W w') := ⟨fun W => wayzgoosetop_correctedAwake.calls k true W H.out.e_aw rfl⟩
      clear H HOC hm0 hm2
      rcases hcase with ⟨rfl, rfl⟩ | ⟨h1, rfl⟩ | h1
      all_goals
       go_wp2_with (first
        | (go_at_call 13; (with_reducible refine (hL2.out _ _ ?s0 ?s1).mono ?_); (case s0 => exact (C_two (Kd.R_reads' (by (with_reducible repeat (first | apply Kd.R_alloc | apply Kd.R_drewN | apply Kd.R_drew | apply R_setn (by assumption))); exact HO.out)).2.2 HC5.out (Kd.R_reads' (by (with_reducible repeat (first | apply Kd.R_alloc | apply Kd.R_drewN | apply Kd.R_drew | apply R_setn (by assumption))); exact HM.out)).2.2 HC8.out)); (case s1 => exact (Kd.R_reads' (by (with_reducible repeat (first | apply Kd.R_alloc | apply Kd.R_drewN | apply Kd.R_drew | apply R_setn (by assumption))); exact HO.out)).2.2); rintro e w16 ⟨rfl, hb⟩; have n0_ := Aside0.mk (Kd.R_below (by (with_reducible repeat (first | apply Kd.R_alloc | apply Kd.R_drewN | apply Kd.R_drew | apply R_setn (by assumption))); exact HO.out) hb); have n1_ := Aside0.mk (Kd.R_below (by (with_reducible repeat (first | apply Kd.R_alloc | apply Kd.R_drewN | apply Kd.R_drew | apply R_setn (by assumption))); exact HM.out) hb); have nb_ := Aside0.mk (below_step (by repeat (first | (with_reducible first | exact HB.out | apply below_alloc | apply pw_below_drewN | apply below_drew1) | exact HB.out)) hb); clear HO; clear HM; clear HB; have HO := n0_; have HM := n1_; have HB := nb_; clear n0_ n1_ nb_; clear hb; clear hL2)
        | (go_at_call 8; refine (HAW.out _).mono ?_; rintro e w22 ⟨rfl, hb⟩; have nb_ := Aside0.mk (below_step (by repeat (first | (with_reducible first | exact HB.out | apply below_alloc | apply pw_below_drewN | apply below_drew1) | exact HB.out)) hb); clear HB hb; have HB := nb_; clear nb_)
        | go_in)
       go_ret
       exact ⟨rfl, HB.out⟩
end Go.Proofs.YteoknahabkoknaaGreatDoor.P
namespace Go.Proofs.YteoknahabkoknaaGreatDoor.P
open Go.RowKit Go.Proofs.YteoknahabkoknaaGreatDoorW.PrintWords Go.Proofs.YteoknahabkoknaaGreatDoorW.PrintLast
set_option linter.unusedVariables false
set_option linter.unusedSimpArgs false
/- The plain law: whatever the numbers, the functions that the law calls answer as it wants them to. -/
theorem cntEq_app (s : ByteArray) (p q : List ByteArray) : cntEq s (p ++ q) = cntEq s p + cntEq s q := by
 unfold cntEq
 rw [List.filter_append, List.length_append]
theorem cntEq_head (s : ByteArray) (q : List ByteArray) : cntEq s (s :: q) = cntEq s q + 1 := by
 unfold cntEq
 simp
theorem cntEq_mem {s : ByteArray} {l : List ByteArray} : 1 ≤ cntEq s l ↔ s ∈ l := by
 unfold cntEq
 constructor
 ·intro h
  obtain ⟨x, hx⟩ := List.exists_mem_of_length_pos (l := l.filter fun x => x.toList == s.toList) (by omega)
  have h1 := List.mem_filter.1 hx
  have h2 : x.toList = s.toList := by simpa using h1.2
  rw [← toList_inj h2]
  exact h1.1
 ·intro h
  exact List.length_pos_of_mem (List.mem_filter.2 ⟨h, by simp⟩)
theorem cnt_more {o p p' q' : List ByteArray} {s : ByteArray} (h1 : o = p' ++ q') (h2 : p = p' ++ s :: q') : cntEq s p = cntEq s o + 1 := by
 rw [h1, h2, cntEq_app, cntEq_app, cntEq_head]
 omega
theorem NameIs.mono {n m : Nat} {s : ByteArray} (h : NameIs n s) (hn : n ≤ m) : NameIs m s := ⟨h.1, by have := h.2.1; omega, h.2.2⟩
theorem key_low {s : ByteArray} (h : NameIs 4 s) : LowIs (nkey s) ∧ (nkey s).size ≤ 10 := by
 have := nkey_is h
 exact ⟨⟨this.1, this.2.1⟩, by omega⟩
theorem top_facts (nums : List Int) : ∃ ns n1 n2 a1 s1 a2 s2 a3 s3 old more m b we f2 f3 f4, TopFacts 60 nums ns n1 n2 a1 s1 a2 s2 a3 s3 old more m b we f2 f3 f4 := by
 obtain ⟨ns, a1, s1, h1, hn, hns, ha1⟩ := NamesOf_ok nums (k := 60) (by omega) 0 11400714819323198485 (by omega)
 obtain ⟨n1, a2, s2, h2, hn1, ha2⟩ := NameOf_ok nums (k := 60) (by omega) a1 s1 ha1
 obtain ⟨n2, a3, s3, h3, hn2, ha3⟩ := NameOf_ok nums (k := 60) (by omega) a2 s2 ha2
 have hl1 : ∀ s ∈ ns ++ [n1], NameIs 4 s := fun s hs => by
  rcases List.mem_append.1 hs with hs | hs
  ·exact hns s hs
  ·rw [List.mem_singleton.1 hs]; exact hn1
 have hl2 : ∀ s ∈ (ns ++ [n1]) ++ [n2], NameIs 4 s := fun s hs => by
  rcases List.mem_append.1 hs with hs | hs
  ·exact hl1 s hs
  ·rw [List.mem_singleton.1 hs]; exact hn2
 obtain ⟨old, k1, p1, o1⟩ := keyed_ok (l := ns ++ [n1]) (by simp) (by simp; omega) (fun s hs => (hl1 s hs).mono (by omega)) (k := 60) (by omega)
 obtain ⟨more, k2, p2, o2⟩ := keyed_ok (l := (ns ++ [n1]) ++ [n2]) (by simp) (by simp; omega) (fun s hs => (hl2 s hs).mono (by omega)) (k := 60) (by omega)
 have hperm : more.Perm (nkey n2 :: old) := by
  refine p2.trans ?_
  rw [List.map_append]
  exact (List.perm_append_comm).trans (p1.symm.cons _)
 obtain ⟨p, q, e1, e2⟩ := one_more o1 o2 hperm
 have hlo : old.length ≤ 5 := by rw [p1.length_eq]; simp; omega
 have hlm : more.length = old.length + 1 := by rw [hperm.length_eq]; rfl
 have hpq : p.length + q.length ≤ 5 := by rw [e1] at hlo; simpa using hlo
 have lowM : ∀ s ∈ more, LowIs s ∧ s.size ≤ 10 := fun s hs => by
  obtain ⟨x, hx, rfl⟩ := List.mem_map.1 (p2.mem_iff.1 hs)
  exact key_low (hl2 x hx)
 have lowO : ∀ s ∈ old, LowIs s ∧ s.size ≤ 10 := fun s hs => by
  obtain ⟨x, hx, rfl⟩ := List.mem_map.1 (p1.mem_iff.1 hs)
  exact key_low (hl1 x hx)
 have okM : PageOk more := ⟨by omega, fun s hs => line_lo (lowM s hs).1.1 (lowM s hs).1.2 (lowM s hs).2⟩
 have okO : PageOk old := ⟨by omega, fun s hs => line_lo (lowO s hs).1.1 (lowO s hs).1.2 (lowO s hs).2⟩
 obtain ⟨m, d1, m0, m1, m2, p', q', e3, e4⟩ := diff_put p q (nkey n2) hpq
 obtain ⟨b, d2, b0, b1, b2, b3⟩ := diff_out p q (nkey n2) hpq
 rw [← e1, ← e2] at d1
 rw [← e1, ← e2] at d2
 rw [← e1] at m2 e3
 rw [← e2] at b3 e4
 have hmem : m.f2 ∈ more := by rw [e4]; simp
 have mk : MarkOk old m := .inl ⟨m0, m1, m2, okM.2 _ hmem⟩
 have bk : MarkOk more b := .inr ⟨b0, b1, b2, b3⟩
 obtain ⟨we, hw, hwe⟩ := Wrong_ok (l := more) (by omega) (fun s hs => (lowM s hs).1) o2
 obtain ⟨f2, hf, hin, hout⟩ := look_put okO okM d1 m0 hmem (k := 60) (by omega)
 have hc := cnt_more (s := m.f2) e3 e4
 refine ⟨ns, n1, n2, a1, s1, a2, s2, a3, s3, old, more, m, b, we, f2, m.f1, b.f1, ?_⟩
 exact {
  e_ns := h1
  e_n1 := h2
  e_k1 := k1
  e_n2 := h3
  e_k2 := k2
  e_len := ⟨hn, by omega, fun s hs => (lowM s hs).2⟩
  e_d1 := Diff_ok okO okM d1 (by omega)
  e_c1 := by rw [cost_ok okO mk (by omega), if_neg (by omega)]
  e_fr := by rw [fresh_ok okO okM, e1, e2, fresh_one]
  e_d2 := Diff_ok okM okO d2 (by omega)
  e_c2 := by rw [cost_ok okM bk (by omega), if_pos b0]
  e_w := ⟨hw, hwe⟩
  e_l1 := ⟨hf, fun h => hout (fun hm => by have := cntEq_mem.2 hm; omega), fun h => hin (cntEq_mem.1 (by omega))⟩
  e_l2 := look_out okO okM d2 b0 (by omega)
  e_l0 := by
   by_cases hm : m.f2 ∈ old
   ·rw [hin hm]; decide
   ·rw [hout hm]; decide
  e_aw := awake_true }
theorem top_returns (A0 : Option Addr) (c0 : Nat) (l0 : List Int) (w : World) (hr0 : Kd.C (Kd.int .i64) w A0 l0.length l0) (hc0 : l0.length ≤ c0) :
  Calls Tryz.prog 3 #[.slice A0 l0.length c0] w fun e w' => e = .returned (.bool true) ∧ Below w.heap.size w w' := by
 obtain ⟨ns, n1, n2, a1, s1, a2, s2, a3, s3, old, more, m, b, we, f2, f3, f4, h⟩ := top_facts l0
 exact top_calls A0 c0 l0 w hr0 hc0 h
end Go.Proofs.YteoknahabkoknaaGreatDoor.P
