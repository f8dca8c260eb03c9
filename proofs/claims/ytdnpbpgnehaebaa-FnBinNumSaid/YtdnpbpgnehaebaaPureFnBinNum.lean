/- Proved: for every drawn number, text and place the law FnBinNum answers true: numbers are read back exactly from their bytes, and what is read was so written. No condition. -/
import Derived.Test.YtdnpbpgnehaebaaPFnBinNumx3
namespace Go.Proofs.Ytdnpbpgnehaebaa.Pure
open Go.RowKit Go.Proofs.Ytdnpbpgnehaebaa.PFnBinNum Go.Proofs.YtdnpbpgnehaebaaW.PrintWords Go.Proofs.YtdnpbpgnehaebaaW.PrintLast
theorem w_id {x : Int} (h0 : -9223372036854775808 ≤ x) (h1 : x ≤ 9223372036854775807) : wrap64 x = x := by unfold wrap64; omega
theorem Ev.pos {α : Type} {c : Prop} [Decidable c] {f g : Nat → Option α} {r : α} (h : c) (k : Ev f r) : Ev (fun n => if c then f n else g n) r := Ev.congr (fun _ => if_pos h) k
theorem Ev.neg {α : Type} {c : Prop} [Decidable c] {f g : Nat → Option α} {r : α} (h : ¬ c) (k : Ev g r) : Ev (fun n => if c then f n else g n) r := Ev.congr (fun _ => if_neg h) k
theorem Ev.ite {α : Type} {c : Prop} [Decidable c] {f g : Nat → Option α} {r : α} (h : c → Ev f r) (k : ¬ c → Ev g r) : Ev (fun n => if c then f n else g n) r := by
  by_cases hc : c
  · exact Ev.pos hc (h hc)
  · exact Ev.neg hc (k hc)
theorem Ev.got {α β : Type} {o : Option α} {f : Nat → α → Option β} {a : α} {r : β} (h : o = some a) (k : Ev (fun n => f n a) r) : Ev (fun n => o.bind (f n)) r := Ev.congr (fun _ => by rw [h]; rfl) k
theorem Ev.next {α : Type} {g : Nat → Option α} {r : α} (k : Ev (fun n => g (n + 1)) r) : Ev g r := Ev.step (fun _ => rfl) k
theorem Ev.some_ {α : Type} {a r : α} (h : a = r) : Ev (fun _ => some a) r := ⟨0, fun _ _ => by rw [h]⟩
theorem Ev.ex_ite {α : Type} {c : Prop} [Decidable c] {f g : Nat → Option α} {P : α → Prop} (h : c → ∃ r, Ev f r ∧ P r) (k : ¬ c → ∃ r, Ev g r ∧ P r) : ∃ r, Ev (fun n => if c then f n else g n) r ∧ P r := by
  by_cases hc : c
  · obtain ⟨r, a, b⟩ := h hc
    exact ⟨r, Ev.pos hc a, b⟩
  · obtain ⟨r, a, b⟩ := k hc
    exact ⟨r, Ev.neg hc a, b⟩
theorem xor_nonneg (x y : Int) (hx : 0 ≤ x) (hx1 : x < 4611686018427387904) (hy : 0 ≤ y) (hy1 : y < 4611686018427387904) : 0 ≤ Go.bits .xor .i64 x y := by
  obtain ⟨a, rfl⟩ := Int.eq_ofNat_of_zero_le hx
  obtain ⟨b, rfl⟩ := Int.eq_ofNat_of_zero_le hy
  have ha : a < 2 ^ 62 := by omega
  have hb : b < 2 ^ 62 := by omega
  have h := Nat.xor_lt_two_pow ha hb
  have ea : a % 2 ^ IntKind.i64.bits = a := Nat.mod_eq_of_lt (by show a < 2 ^ 64; omega)
  have eb : b % 2 ^ IntKind.i64.bits = b := Nat.mod_eq_of_lt (by show b < 2 ^ 64; omega)
  have e : Go.bits .xor .i64 (a : Int) (b : Int) = IntKind.i64.wrap (((a ^^^ b : Nat) : Nat) : Int) := by
    simp only [Go.bits, BitVec.ofInt_natCast, BitVec.toNat_xor, BitVec.toNat_ofNat, ea, eb]
  rw [e, IntKind.wrap_i64]
  omega
theorem rd_byte {b : List Int} (hb : ∀ x ∈ b, 0 ≤ x ∧ x ≤ 255) (i : Int) : 0 ≤ rd b i ∧ rd b i ≤ 255 := by
  unfold rd
  rw [List.getD_eq_getElem?_getD]
  cases h : b[i.toNat]? with
  | none => simp
  | some v => exact hb v (List.mem_of_getElem? h)
theorem pick_ev {b : List Int} (hb : ∀ x ∈ b, 0 ≤ x ∧ x ≤ 255) (hl : b.length ≤ 2000) (p n : Int) (hp : 0 ≤ p) (hp1 : p ≤ 1000000000) :
    ∃ v, Ev (fun k => spec_l14Rd_pick.f k b p n) (v, p + 1) ∧ 0 ≤ v ∧ (1 ≤ n → v < n) ∧ (n < 1 → v = 0) := by
  unfold spec_l14Rd_pick.f
  rw [w_id (x := p + 1) (by omega) (by omega)]
  by_cases hn : n < 1
  · refine ⟨0, Ev.pos hn (Ev.next ?_), by omega, fun h => by omega, fun _ => rfl⟩
    simp only [spec_l14Rd_pick.j0]
    exact Ev.pos trivial (Ev.now _)
  · suffices hs : ∃ v, Ev (fun k => spec_l14Rd_pick.j0 (k + 1) n ((b.length : Int) == 0) b (p + 1)) (v, p + 1) ∧ 0 ≤ v ∧ (1 ≤ n → v < n) ∧ (n < 1 → v = 0) by
      obtain ⟨v, h, r⟩ := hs
      exact ⟨v, Ev.neg hn (Ev.next h), r⟩
    have hm := fun x : Int => Int.tmod_nonneg (a := x) n
    have hm2 := fun x : Int => Int.tmod_lt_of_pos x (show 0 < n by omega)
    have ep : p + 1 - 1 = p := by omega
    simp only [spec_l14Rd_pick.j0, ep]
    by_cases h0 : (b.length : Int) = 0
    · exact ⟨0, Ev.pos (by simpa using h0) (Ev.now _), by omega, fun h => by omega, fun _ => rfl⟩
    · have e0 : ¬ ((((b.length : Int) == 0)) = true) := by simpa using h0
      rw [w_id (x := p) (by omega) (by omega)]
      by_cases hpl : p < (b.length : Int)
      · have r1 := rd_byte hb p
        refine ⟨_, Ev.neg e0 (Ev.pos hpl (Ev.pos hp (Ev.neg (by omega) (Ev.now _)))), ?_, fun _ => hm2 _, fun h => by omega⟩
        rw [w_id (by omega) (by omega)]
        exact hm _ r1.1
      · have hL : (0 : Int) < b.length := by omega
        have a0 : 0 ≤ Int.tmod p b.length := Int.tmod_nonneg _ hp
        have a1 := Int.tmod_lt_of_pos p hL
        rw [w_id (x := p * 7) (by omega) (by omega), w_id (x := p * 7 + 3) (by omega) (by omega)]
        have b0 : 0 ≤ Int.tmod (p * 7 + 3) b.length := Int.tmod_nonneg _ (by omega)
        have b1 := Int.tmod_lt_of_pos (p * 7 + 3) hL
        have r1 := rd_byte hb (Int.tmod p b.length)
        have r2 := rd_byte hb (Int.tmod (p * 7 + 3) b.length)
        have d0 : 0 ≤ Int.tdiv p b.length := Int.tdiv_nonneg hp (by omega)
        have d1 : Int.tdiv p b.length ≤ p := by rw [Int.tdiv_eq_ediv_of_nonneg hp]; exact Int.ediv_le_self _ hp
        generalize rd b (Int.tmod p b.length) = x at *
        generalize rd b (Int.tmod (p * 7 + 3) b.length) = y at *
        generalize Int.tdiv p b.length = d at *
        have e : wrap64 (wrap64 (wrap64 (wrap64 (wrap64 x * 131) + wrap64 (wrap64 y * 1117)) + wrap64 (p * 29)) + wrap64 (wrap64 d * 53)) = x * 131 + y * 1117 + p * 29 + d * 53 := by
          rw [w_id (x := x) (by omega) (by omega), w_id (x := y) (by omega) (by omega), w_id (x := d) (by omega) (by omega)]
          rw [w_id (x := x * 131) (by omega) (by omega), w_id (x := y * 1117) (by omega) (by omega), w_id (x := p * 29) (by omega) (by omega), w_id (x := d * 53) (by omega) (by omega)]
          rw [w_id (x := x * 131 + y * 1117) (by omega) (by omega), w_id (x := x * 131 + y * 1117 + p * 29) (by omega) (by omega), w_id (by omega) (by omega)]
        rw [e]
        have q0 : 0 ≤ Int.tdiv (x * 131 + y * 1117 + p * 29 + d * 53) 64 := Int.tdiv_nonneg (by omega) (by omega)
        have q1 : Int.tdiv (x * 131 + y * 1117 + p * 29 + d * 53) 64 ≤ x * 131 + y * 1117 + p * 29 + d * 53 := by rw [Int.tdiv_eq_ediv_of_nonneg (by omega)]; exact Int.ediv_le_self _ (by omega)
        rw [w_id (x := Int.tdiv _ 64) (by omega) (by omega)]
        refine ⟨_, Ev.neg e0 (Ev.neg hpl (Ev.neg h0 (Ev.pos a0 (Ev.pos a1 (Ev.pos b0 (Ev.pos b1 (Ev.neg (by omega) (Ev.now _)))))))), ?_, fun _ => hm2 _, fun h => by omega⟩
        exact hm _ (xor_nonneg _ _ (by omega) (by omega) q0 (by omega))
theorem open_ok {l : List Int} (hw : ∀ x ∈ l, (Lit.int .u8 x).wf = true) : ∃ b, spec_l14Open.f l = some (b, 0) ∧ (∀ x ∈ b, 0 ≤ x ∧ x ≤ 255) ∧ b.length ≤ 2000 := by
  have hx : ∀ x ∈ l, 0 ≤ x ∧ x ≤ 255 := fun x h => by simpa [Lit.wf, IntKind.min, IntKind.max, IntKind.signed, IntKind.bits] using hw x h
  unfold spec_l14Open.f
  by_cases h : (l.length : Int) > 2000
  · rw [if_pos h, if_pos (by omega)]
    exact ⟨_, rfl, fun x hm => hx x (List.mem_of_mem_take hm), by simp; omega⟩
  · rw [if_neg h]
    exact ⟨_, rfl, hx, by omega⟩
theorem num_ev {b : List Int} (hb : ∀ x ∈ b, 0 ≤ x ∧ x ≤ 255) (hl : b.length ≤ 2000) (p : Int) (hp : 0 ≤ p) (hp1 : p ≤ 1000000000) (l : List Int) (h0 : l ≠ []) :
    ∃ v, Ev (fun k => spec_l14Rd_num.f k b p l) (v, p + 1) ∧ v ∈ l := by
  have hlen : 0 < l.length := List.length_pos_iff.2 h0
  obtain ⟨v, h, v0, v1, _⟩ := pick_ev hb hl p (l.length : Int) hp hp1
  have hv := v1 (by omega)
  refine ⟨rd l v, ?_, ?_⟩
  · unfold spec_l14Rd_num.f
    refine h.bind ?_
    exact Ev.pos v0 (Ev.pos hv (Ev.now _))
  · unfold rd
    rw [List.getD_eq_getElem?_getD, List.getElem?_eq_getElem (by omega)]
    exact List.getElem_mem _
/-- The number at a place. -/
def numAt (s : ByteArray) (i : Int) : Int × Int × Int :=
  if i < 0 ∨ i ≥ s.size then (0, 0, 2) else if bt s i < 128 then (bt s i, i + 1, 0) else if i + 1 ≥ s.size then (0, 0, 2) else if bt s (i + 1) = 0 ∨ bt s (i + 1) ≥ 128 then (0, 0, 3) else (bt s i - 128 + 128 * bt s (i + 1), i + 2, 0)
theorem numAt_out {s : ByteArray} {i : Int} (h : i < 0 ∨ i ≥ s.size) : numAt s i = (0, 0, 2) := if_pos h
theorem numAt_one {s : ByteArray} {i : Int} (h : 0 ≤ i) (h1 : i < s.size) (c : bt s i < 128) : numAt s i = (bt s i, i + 1, 0) := by unfold numAt; rw [if_neg (by omega), if_pos c]
theorem numAt_short {s : ByteArray} {i : Int} (h : 0 ≤ i) (h1 : i < s.size) (c : ¬ bt s i < 128) (d : i + 1 ≥ s.size) : numAt s i = (0, 0, 2) := by unfold numAt; rw [if_neg (by omega), if_neg c, if_pos d]
theorem numAt_bad {s : ByteArray} {i : Int} (h : 0 ≤ i) (h1 : i + 1 < s.size) (c : ¬ bt s i < 128) (d : bt s (i + 1) = 0 ∨ bt s (i + 1) ≥ 128) : numAt s i = (0, 0, 3) := by unfold numAt; rw [if_neg (by omega), if_neg c, if_neg (by omega), if_pos d]
theorem numAt_two {s : ByteArray} {i : Int} (h : 0 ≤ i) (h1 : i + 1 < s.size) (c : ¬ bt s i < 128) (d : ¬ (bt s (i + 1) = 0 ∨ bt s (i + 1) ≥ 128)) : numAt s i = (bt s i - 128 + 128 * bt s (i + 1), i + 2, 0) := by unfold numAt; rw [if_neg (by omega), if_neg c, if_neg (by omega), if_neg d]
theorem implNumAt_ev (s : ByteArray) (i : Int) (hs : s.size ≤ 140737488355328) : Ev (fun k => impl_BinNumAt.f k s i) (numAt s i) := by
  unfold impl_BinNumAt.f
  by_cases h : i < 0
  · refine Ev.pos h (Ev.next ?_)
    simp only [impl_BinNumAt.j0]
    rw [numAt_out (.inl h)]
    exact Ev.pos trivial (Ev.now _)
  · refine Ev.neg h (Ev.next ?_)
    simp only [impl_BinNumAt.j0]
    by_cases h1 : i ≥ s.size
    · rw [numAt_out (.inr h1)]
      exact Ev.pos (decide_eq_true h1) (Ev.now _)
    · have r0 := bt_range s i
      have r1 := bt_range s (i + 1)
      rw [w_id (x := i + 1) (by omega) (by omega), w_id (x := i + 2) (by omega) (by omega)]
      rw [w_id (x := bt s i) (by omega) (by omega), w_id (x := bt s (i + 1)) (by omega) (by omega)]
      rw [w_id (x := bt s i - 128) (by omega) (by omega), w_id (x := 128 * bt s (i + 1)) (by omega) (by omega), w_id (x := bt s i - 128 + 128 * bt s (i + 1)) (by omega) (by omega)]
      refine Ev.neg (by rw [decide_eq_false h1]; simp) (Ev.pos (by omega) (Ev.pos (by omega) ?_))
      by_cases c : bt s i < 128
      · rw [numAt_one (by omega) (by omega) c]; exact Ev.pos c (Ev.now _)
      · refine Ev.neg c ?_
        by_cases d : i + 1 ≥ s.size
        · rw [numAt_short (by omega) (by omega) c d]; exact Ev.pos d (Ev.now _)
        · refine Ev.neg d (Ev.pos (by omega) (Ev.pos (by omega) ?_))
          by_cases e : bt s (i + 1) = 0
          · rw [numAt_bad (by omega) (by omega) c (.inl e)]; exact Ev.pos e (Ev.now _)
          · refine Ev.neg e ?_
            by_cases g : bt s (i + 1) ≥ 128
            · rw [numAt_bad (by omega) (by omega) c (.inr g)]; exact Ev.pos g (Ev.now _)
            · rw [numAt_two (by omega) (by omega) c (by omega)]; exact Ev.neg g (Ev.now _)
/-- The bytes of a number. -/
def binOf (n : Int) : ByteArray := if n < 0 ∨ n > 16383 then ⟨#[]⟩ else if n < 128 then strOfNums [n % 256] else strOfNums [wrap64 (128 + Int.tmod n 128) % 256, wrap64 (Int.tdiv n 128) % 256]
theorem binOf_none {n : Int} (h : n < 0 ∨ n > 16383) : binOf n = ⟨#[]⟩ := if_pos h
theorem binOf_one {n : Int} (h : 0 ≤ n) (h1 : n < 128) : binOf n = strOfNums [n] := by
  unfold binOf; rw [if_neg (by omega), if_pos h1, show n % 256 = n by omega]
theorem binOf_two {n : Int} (h : 128 ≤ n) (h1 : n ≤ 16383) : binOf n = strOfNums [128 + n % 128, n / 128] := by
  unfold binOf
  rw [if_neg (by omega), if_neg (by omega), Int.tmod_eq_emod_of_nonneg (by omega), Int.tdiv_eq_ediv_of_nonneg (by omega), w_id (by omega) (by omega), w_id (by omega) (by omega)]
  rw [show (128 + n % 128) % 256 = 128 + n % 128 by omega, show n / 128 % 256 = n / 128 by omega]
theorem implBinOf_ev (n : Int) : Ev (fun k => impl_BinOfNum.f k n) (binOf n) := by
  unfold impl_BinOfNum.f
  by_cases h : n < 0
  · refine Ev.pos h (Ev.next ?_)
    simp only [impl_BinOfNum.j0]
    rw [binOf_none (.inl h)]
    exact Ev.pos trivial (Ev.now _)
  · refine Ev.neg h (Ev.next ?_)
    simp only [impl_BinOfNum.j0]
    by_cases h1 : n > 16383
    · rw [binOf_none (.inr h1)]
      exact Ev.pos (decide_eq_true h1) (Ev.now _)
    · refine Ev.neg (by rw [decide_eq_false h1]; simp) ?_
      by_cases c : n < 128
      · rw [show binOf n = strOfNums [n % 256] by unfold binOf; rw [if_neg (by omega), if_pos c]]
        exact Ev.pos c (Ev.now _)
      · rw [show binOf n = strOfNums [wrap64 (128 + Int.tmod n 128) % 256, wrap64 (Int.tdiv n 128) % 256] by unfold binOf; rw [if_neg (by omega), if_neg c]]
        exact Ev.neg c (Ev.now _)
theorem same_j0 : spec_BinOfNum.j0 = impl_BinOfNum.j0 := by
  funext k
  cases k <;> rfl
theorem same_f : spec_BinOfNum.f = impl_BinOfNum.f := by
  funext k a
  unfold impl_BinOfNum.f spec_BinOfNum.f
  rw [same_j0]
theorem specBinOf_ev (n : Int) : Ev (fun k => spec_BinOfNum.f k n) (binOf n) := by
  rw [same_f]
  exact implBinOf_ev n
/-- A text's bytes as numbers. -/
def bts (s : ByteArray) : List Int := s.data.toList.map fun b => (b.toNat : Int)
theorem bts_length (s : ByteArray) : (bts s).length = s.size := by
  simp only [bts, List.length_map, Array.length_toList]
  rfl
theorem bts_inj {s t : ByteArray} (h : bts s = bts t) : s = t := by
  refine Go.WideShapes.bytes_inj ?_
  unfold bts at h
  refine (List.map_inj_right (fun a b hab => ?_)).1 h
  exact UInt8.toNat_inj.1 (by exact_mod_cast hab)
theorem bts_append (s t : ByteArray) : bts (s ++ t) = bts s ++ bts t := by simp [bts, ByteArray.data_append]
theorem bts_extract (s : ByteArray) (i j : Nat) : bts (s.extract i j) = ((bts s).drop i).take (j - i) := by
  simp [bts, ByteArray.data_extract, List.map_take, List.map_drop, List.extract_eq_take_drop]
theorem bts_of (xs : List Int) (h : ∀ x ∈ xs, 0 ≤ x ∧ x < 256) : bts (strOfNums xs) = xs := by
  unfold bts strOfNums
  simp only [List.map_map]
  refine (List.map_congr_left (fun x hx => ?_)).trans (List.map_id xs)
  have := h x hx
  simp only [Function.comp, UInt8.toNat_ofNat', id]
  omega
theorem bt_bts (s : ByteArray) (i : Int) : bt s i = (bts s).getD i.toNat 0 := by
  have hl := bts_length s
  unfold bt
  rw [List.getD_eq_getElem?_getD]
  by_cases h : i.toNat < s.size
  · rw [dif_pos h, List.getElem?_eq_getElem (by omega)]
    simp only [bts, List.getElem_map, Array.getElem_toList, Option.getD_some]
    rfl
  · rw [dif_neg h, List.getElem?_eq_none (by omega)]
    rfl
/-- The bytes of a number, as numbers. -/
def enc (n : Int) : List Int := if n < 128 then [n] else [128 + n % 128, n / 128]
theorem enc_len (n : Int) : 1 ≤ (enc n).length ∧ (enc n).length ≤ 2 := by unfold enc; split <;> simp
theorem bts_binOf {n : Int} (h0 : 0 ≤ n) (h1 : n ≤ 16383) : bts (binOf n) = enc n := by
  unfold enc
  by_cases c : n < 128
  · rw [if_pos c, binOf_one h0 c, bts_of]
    intro x hx; simp at hx; omega
  · rw [if_neg c, binOf_two (by omega) h1, bts_of]
    intro x hx; simp at hx; omega
theorem numAt_enc {s : ByteArray} {n : Int} (h0 : 0 ≤ n) (h1 : n ≤ 16383) {pre post : List Int} (h : bts s = pre ++ (enc n ++ post)) : numAt s (pre.length : Int) = (n, (pre.length : Int) + (enc n).length, 0) := by
  have hl := bts_length s
  rw [h] at hl
  simp only [List.length_append] at hl
  have e0 : bt s (pre.length : Int) = (enc n ++ post).getD 0 0 := by
    rw [bt_bts, h, List.getD_eq_getElem?_getD, List.getD_eq_getElem?_getD, Int.toNat_natCast, List.getElem?_append_right (Nat.le_refl _), Nat.sub_self]
  have e1 : bt s ((pre.length : Int) + 1) = (enc n ++ post).getD 1 0 := by
    rw [bt_bts, h, List.getD_eq_getElem?_getD, List.getD_eq_getElem?_getD, show ((pre.length : Int) + 1).toNat = pre.length + 1 by omega, List.getElem?_append_right (by omega), show pre.length + 1 - pre.length = 1 by omega]
  unfold enc at *
  by_cases c : n < 128
  · simp only [if_pos c] at *
    simp at e0 hl
    rw [numAt_one (by omega) (by omega) (by omega), e0]
    rfl
  · simp only [if_neg c] at *
    simp at e0 e1 hl
    rw [numAt_two (by omega) (by omega) (by omega) (by omega), e0, e1]
    simp only [List.length_cons, List.length_nil, Prod.mk.injEq, and_true]
    omega
/-- What a number that is read says of the text. -/
theorem numAt_fine {s : ByteArray} {i x j : Int} (h : numAt s i = (x, j, 0)) : 0 ≤ i ∧ i ≤ j ∧ j ≤ s.size ∧ 0 ≤ x ∧ x ≤ 16383 ∧ bts (s.extract i.toNat j.toNat) = enc x := by
  have r0 := bt_range s i
  have r1 := bt_range s (i + 1)
  have hl := bts_length s
  by_cases a : i < 0 ∨ i ≥ s.size
  · rw [numAt_out a] at h; simp at h
  · by_cases c : bt s i < 128
    · rw [numAt_one (by omega) (by omega) c] at h
      simp only [Prod.mk.injEq] at h
      obtain ⟨rfl, rfl, _⟩ := h
      refine ⟨by omega, by omega, by omega, by omega, by omega, ?_⟩
      rw [bts_extract, show (i + 1).toNat - i.toNat = 1 by omega]
      unfold enc
      have b0 : bt s i = (bts s)[i.toNat]'(by omega) := by rw [bt_bts, List.getD_eq_getElem?_getD, List.getElem?_eq_getElem (by omega)]; rfl
      rw [if_pos c, List.drop_eq_getElem_cons (by omega), List.take_succ_cons, List.take_zero, ← b0]
    · by_cases d : i + 1 ≥ s.size
      · rw [numAt_short (by omega) (by omega) c d] at h; simp at h
      · by_cases e : bt s (i + 1) = 0 ∨ bt s (i + 1) ≥ 128
        · rw [numAt_bad (by omega) (by omega) c e] at h; simp at h
        · rw [numAt_two (by omega) (by omega) c e] at h
          simp only [Prod.mk.injEq] at h
          obtain ⟨rfl, rfl, _⟩ := h
          refine ⟨by omega, by omega, by omega, by omega, by omega, ?_⟩
          have b0 : bt s i = (bts s)[i.toNat]'(by omega) := by rw [bt_bts, List.getD_eq_getElem?_getD, List.getElem?_eq_getElem (by omega)]; rfl
          have b1 : bt s (i + 1) = (bts s)[i.toNat + 1]'(by omega) := by rw [bt_bts, List.getD_eq_getElem?_getD, show (i + 1).toNat = i.toNat + 1 by omega, List.getElem?_eq_getElem (by omega)]; rfl
          rw [bts_extract, show (i + 2).toNat - i.toNat = 2 by omega]
          unfold enc
          rw [if_neg (by omega), List.drop_eq_getElem_cons (by omega), List.drop_eq_getElem_cons (by omega), ← b0, ← b1]
          simp only [List.take_succ_cons, List.take_zero, List.cons.injEq, and_true]
          omega
theorem numAt_fail {s : ByteArray} {i x j c : Int} (h : numAt s i = (x, j, c)) (hc : c ≠ 0) : x = 0 ∧ j = 0 := by
  unfold numAt at h
  repeat' split at h
  all_goals simp only [Prod.mk.injEq] at h
  all_goals omega
theorem enc_prefix {a b : Int} (ha : 0 ≤ a) (ha1 : a ≤ 16383) (h : (enc b).take (enc a).length = enc a) : a = b := by
  unfold enc at h
  by_cases c : a < 128 <;> by_cases d : b < 128
  · simp [if_pos c, if_pos d] at h; omega
  · simp [if_pos c, if_neg d] at h; omega
  · simp [if_neg c, if_pos d] at h
  · simp [if_neg c, if_neg d] at h; omega
theorem specNumAt_ev (s : ByteArray) (i : Int) (hs : s.size ≤ 140737488355328) : Ev (fun k => spec_BinNumAt.f k s i) (numAt s i) := by
  unfold spec_BinNumAt.f
  by_cases h : i < 0
  · refine Ev.pos h (Ev.next ?_)
    simp only [spec_BinNumAt.j0]
    rw [numAt_out (.inl h)]
    exact Ev.pos trivial (Ev.now _)
  · refine Ev.neg h (Ev.next ?_)
    simp only [spec_BinNumAt.j0]
    by_cases h1 : i ≥ s.size
    · rw [numAt_out (.inr h1)]
      exact Ev.pos (decide_eq_true h1) (Ev.now _)
    · have r0 := bt_range s i
      have r1 := bt_range s (i + 1)
      rw [w_id (x := i + 1) (by omega) (by omega), w_id (x := i + 2) (by omega) (by omega)]
      rw [w_id (x := bt s i) (by omega) (by omega), w_id (x := bt s (i + 1)) (by omega) (by omega)]
      rw [w_id (x := bt s i - 128) (by omega) (by omega), w_id (x := 128 * bt s (i + 1)) (by omega) (by omega), w_id (x := bt s i - 128 + 128 * bt s (i + 1)) (by omega) (by omega)]
      refine Ev.neg (by rw [decide_eq_false h1]; simp) (Ev.pos (by omega) (Ev.pos (by omega) ?_))
      by_cases c : bt s i < 128
      · rw [numAt_one (by omega) (by omega) c]; exact Ev.pos c (Ev.now _)
      · refine Ev.neg c ?_
        by_cases d : i + 1 ≥ s.size
        · rw [numAt_short (by omega) (by omega) c d]; exact Ev.pos d (Ev.now _)
        · refine Ev.neg d (Ev.pos (by omega) (Ev.pos (by omega) ?_))
          by_cases e : bt s (i + 1) = 0
          · rw [numAt_bad (by omega) (by omega) c (.inl e)]; exact Ev.pos e (Ev.now _)
          · refine Ev.neg e ?_
            by_cases g : bt s (i + 1) > 127
            · rw [numAt_bad (by omega) (by omega) c (.inr (by omega))]; exact Ev.pos g (Ev.now _)
            · rw [numAt_two (by omega) (by omega) c (by omega)]; exact Ev.neg g (Ev.now _)
theorem drawP {l : List Int} (hw : ∀ x ∈ l, (Lit.int .u8 x).wf = true) : ∃ n, Ev (fun k => spec_DrawBinOfNum.f k l) n := by
  obtain ⟨b, ho, hb, hl⟩ := open_ok hw
  obtain ⟨v, h, _⟩ := num_ev hb hl 0 (by omega) (by omega) [0, 1, 127, 128, 129, 255, 256, 300, 9972, 16383, 16384, (-1), 9223372036854775807] (by simp)
  refine ⟨v, ?_⟩
  unfold spec_DrawBinOfNum.f
  exact Ev.got ho (h.bind (Ev.now _))
theorem drawAtP {l : List Int} (hw : ∀ x ∈ l, (Lit.int .u8 x).wf = true) : ∃ s i, Ev (fun k => spec_DrawBinNumAt.f k l) (s, i) ∧ s.size ≤ 5 := by
  obtain ⟨b, ho, hb, hl⟩ := open_ok hw
  have loop : ∀ (d : Nat) (s : ByteArray) (x p : Int), x = d → 0 ≤ p → p + 2 * d ≤ 1000000 → s.size + d ≤ 1000 → ∃ s' i, Ev (fun k => spec_DrawBinNumAt.l0 k s x b p) (s', i) ∧ s'.size ≤ s.size + d := by
    intro d
    induction d with
    | zero =>
      intro s x p hx hp hp1 hs
      obtain ⟨v, h, _⟩ := num_ev hb hl p hp (by omega) [0, 0, 0, 1, 2, (-1), 9223372036854775807] (by simp)
      refine ⟨s, v, Ev.next ?_, by omega⟩
      simp only [spec_DrawBinNumAt.l0]
      exact Ev.neg (by omega) (h.bind (Ev.now _))
    | succ d ih =>
      intro s x p hx hp hp1 hs
      obtain ⟨y, h1, _⟩ := pick_ev hb hl p 256 hp (by omega)
      obtain ⟨v, h2, _⟩ := num_ev hb hl (p + 1) (by omega) (by omega) [0, 1, 127, 128, 129, 200, 255, y] (by simp)
      have hz : (strOfNums [v % 256]).size = 1 := by rw [strOfNums_size]; rfl
      obtain ⟨s', i, h3, h4⟩ := ih (s ++ strOfNums [v % 256]) (x - 1) (p + 1 + 1) (by omega) (by omega) (by omega) (by rw [ByteArray.size_append]; omega)
      refine ⟨s', i, Ev.next ?_, by rw [ByteArray.size_append] at h4; omega⟩
      simp only [spec_DrawBinNumAt.l0]
      rw [w_id (x := x - 1) (by omega) (by omega)]
      exact Ev.pos (by omega) (h1.bind (h2.bind (Ev.got rfl (Ev.pos (show s.size + (strOfNums [v % 256]).size ≤ 9223372036854775807 by omega) h3))))
  obtain ⟨n, h1, n0, n1, _⟩ := pick_ev hb hl 0 5 (by omega) (by omega)
  have n2 := n1 (by omega)
  obtain ⟨s, i, h, hs⟩ := loop n.toNat ⟨#[]⟩ n (0 + 1) (by omega) (by omega) (by omega) (by have : (⟨#[]⟩ : ByteArray).size = 0 := rfl; omega)
  refine ⟨s, i, ?_, ?_⟩
  · unfold spec_DrawBinNumAt.f
    exact Ev.got ho (h1.bind h)
  · have : (⟨#[]⟩ : ByteArray).size = 0 := rfl
    omega
section
variable (n : Int) (s : ByteArray) (i : Int) (x j c : Int) (hn : numAt s i = (x, j, c))
include hn
theorem tail_ev : (c = 0 → Ev (fun k => (impl_BinOfNum.f k x).bind fun t164 => (if 0 ≤ i then (if i ≤ j then (if j ≤ (s.size : Int) then (if t164.toList = (s.extract (i : Int).toNat (j : Int).toNat).toList then (if x ≥ 0 then (some (decide (x ≤ 16383))) else (some false)) else (some false)) else (none)) else (none)) else (none))) true) := by
  rintro rfl
  obtain ⟨h0, h1, h2, h3, h4, h5⟩ := numAt_fine hn
  refine (implBinOf_ev x).bind (Ev.pos h0 (Ev.pos h1 (Ev.pos h2 (Ev.pos ?_ (Ev.pos h3 (Ev.some_ (by simpa using h4)))))))
  congr 1
  apply bts_inj
  rw [bts_binOf h3 h4, h5]
theorem num_j3 : Ev (fun k => laws_FnBinNum.j3 k n (binOf n) s i x j c false) true := by
  refine Ev.next ?_
  simp only [laws_FnBinNum.j3]
  refine Ev.neg (by simp) (Ev.ite (fun h => tail_ev s i x j c hn h) fun h => ?_)
  obtain ⟨rfl, rfl⟩ := numAt_fail hn h
  refine Ev.pos rfl (Ev.pos rfl (Ev.ite (fun h1 => Ev.ite (fun h2 => Ev.now _) fun h2 => Ev.some_ ?_) fun h1 => Ev.some_ ?_))
  all_goals rw [binOf_none (by omega), ByteArray.toList_eq]; rfl
theorem num_j2 (b : Bool) (hb : b = decide (0 ≤ n ∧ n ≤ 16383)) (hs : s.size ≤ 1000) : Ev (fun k => laws_FnBinNum.j2 k n (binOf n) s i x j c b) true := by
  refine Ev.next ?_
  simp only [laws_FnBinNum.j2]
  refine Ev.ite (fun e => ?_) (fun e => ?_)
  · rw [hb] at e
    simp at e
    have ba := bts_binOf e.1 e.2
    have la := bts_length (binOf n)
    have le := enc_len n
    rw [ba] at la
    have n0 : numAt (binOf n ++ s) 0 = (n, ((binOf n).size : Int), 0) := by
      have := numAt_enc (s := binOf n ++ s) e.1 e.2 (pre := []) (post := bts s) (by rw [bts_append, ba]; rfl)
      rw [la] at this
      simpa using this
    have v0 := implNumAt_ev (binOf n ++ s) 0 (by rw [ByteArray.size_append]; omega)
    rw [n0] at v0
    refine Ev.pos (by omega) (v0.bind (Ev.pos rfl (Ev.pos rfl (Ev.pos rfl ?_))))
    rw [show decide (((binOf n).size : Int) > 2) = false from decide_eq_false (by omega)]
    exact num_j3 n s i x j c hn
  · refine Ev.ite (fun h => tail_ev s i x j c hn h) fun h => ?_
    obtain ⟨rfl, rfl⟩ := numAt_fail hn h
    rw [hb] at e
    simp at e
    refine Ev.pos rfl (Ev.pos rfl (Ev.ite (fun h1 => Ev.ite (fun h2 => Ev.now _) fun h2 => Ev.some_ ?_) fun h1 => Ev.some_ ?_))
    all_goals rw [binOf_none (by omega), ByteArray.toList_eq]; rfl
theorem num_j1 (hs : s.size ≤ 1000) : Ev (fun k => laws_FnBinNum.j1 k n (binOf n) s i x j c false) true := by
  refine Ev.next ?_
  simp only [laws_FnBinNum.j1]
  refine Ev.neg (by simp) (Ev.ite (fun e => ?_) (fun e => ?_))
  · exact num_j2 n s i x j c hn _ (by simp [e]) hs
  · exact num_j2 n s i x j c hn _ (by rw [eq_comm, decide_eq_false_iff_not]; omega) hs
end
theorem num_j0 (l m : List Int) (hl : ∀ x ∈ l, (Lit.int .u8 x).wf = true) (hm : ∀ x ∈ m, (Lit.int .u8 x).wf = true) : ∀ c : Bool, Ev (fun k => laws_FnBinNum.j0 k l m c) true := by
  intro c
  refine Ev.next ?_
  simp only [laws_FnBinNum.j0]
  refine Ev.ite (fun _ => Ev.now _) fun _ => ?_
  obtain ⟨n, hn⟩ := drawP hl
  obtain ⟨s, i, hd, hs⟩ := drawAtP hm
  refine hn.bind ((implBinOf_ev n).bind (hd.bind ((implNumAt_ev s i (by omega)).bind ((specNumAt_ev s i (by omega)).bind ((specBinOf_ev n).bind (Ev.pos rfl (Ev.pos rfl (Ev.pos rfl ?_))))))))
  simp only [bne_self_eq_false]
  exact num_j1 n s i _ _ _ rfl (by omega)
theorem FnBinNum : laws_FnBinNum.Pure := by
  intro l m _ _ hl _ _ hm
  apply Ev.rounds
  unfold laws_FnBinNum.f
  exact Ev.ite (fun _ => num_j0 l m hl hm _) (fun _ => num_j0 l m hl hm _)
end Go.Proofs.Ytdnpbpgnehaebaa.Pure
