/- Proved: the law FnThingText answers true: a thing's text is the reference's, has a word for each part, and one more for one part more, whatever is drawn. No condition. -/
import Derived.Test.YthomfkdoaembbaaDoorPFnThingTextx3
import Derived.Lib.ItoaLen
namespace Go.Proofs.YthomfkdoaembbaaDoor.Pure
open Go.RowKit Go.Proofs.YthomfkdoaembbaaDoor.PFnThingText Go.Proofs.YthomfkdoaembbaaDoorW.PrintWords Go.Proofs.YthomfkdoaembbaaDoorW.PrintLast
theorem w_id {x : Int} (h0 : -9223372036854775808 ≤ x) (h1 : x ≤ 9223372036854775807) : wrap64 x = x := by unfold wrap64; omega
theorem Ev.pos {α : Type} {c : Prop} [Decidable c] {f g : Nat → Option α} {r : α} (h : c) (k : Ev f r) : Ev (fun n => if c then f n else g n) r := Ev.congr (fun _ => if_pos h) k
theorem Ev.neg {α : Type} {c : Prop} [Decidable c] {f g : Nat → Option α} {r : α} (h : ¬ c) (k : Ev g r) : Ev (fun n => if c then f n else g n) r := Ev.congr (fun _ => if_neg h) k
theorem Ev.ite {α : Type} {c : Prop} [Decidable c] {f g : Nat → Option α} {r : α} (h : c → Ev f r) (k : ¬ c → Ev g r) : Ev (fun n => if c then f n else g n) r := by
  by_cases hc : c
  · exact Ev.pos hc (h hc)
  · exact Ev.neg hc (k hc)
theorem Ev.got {α β : Type} {o : Option α} {f : Nat → α → Option β} {a : α} {r : β} (h : o = some a) (k : Ev (fun n => f n a) r) : Ev (fun n => o.bind (f n)) r := Ev.congr (fun _ => by rw [h]; rfl) k
theorem Ev.next {α : Type} {g : Nat → Option α} {r : α} (k : Ev (fun n => g (n + 1)) r) : Ev g r := Ev.step (fun _ => rfl) k
theorem Ev.some_ {α : Type} {a r : α} (h : a = r) : Ev (fun _ => some a) r := ⟨0, fun _ _ => by rw [h]⟩
theorem Ev.ex_ite {α : Type} {c : Prop} [Decidable c] {f g : Nat → Option α} {P : α → Prop} (h : c → ∃ r, Ev f r ∧ P r) (k : ¬ c → ∃ r, Ev g r ∧ P r) : ∃ r, Ev (fun n => if c then f n else g n) r ∧ P r := by
  by_cases hc : c
  · obtain ⟨r, a, b⟩ := h hc
    exact ⟨r, Ev.pos hc a, b⟩
  · obtain ⟨r, a, b⟩ := k hc
    exact ⟨r, Ev.neg hc a, b⟩
/-- A text out of its bytes. -/
def mkS (l : List UInt8) : ByteArray := ⟨l.toArray⟩
theorem mkS_size (l : List UInt8) : (mkS l).size = l.length := by simp [mkS, ByteArray.size]
theorem mkS_append (l m : List UInt8) : mkS l ++ mkS m = mkS (l ++ m) := by
  apply ByteArray.ext; simp [mkS, ByteArray.data_append]
theorem mkS_toList (l : List UInt8) : (mkS l).data.toList = l := by simp [mkS]
theorem dg_eq (x : Int) (h0 : 0 ≤ x) (h1 : x < 10) : strOfNums [(wrap64 (48 + x)) % 256] = mkS [UInt8.ofNat (48 + x.toNat)] := by
  rw [w_id (by omega) (by omega)]
  unfold strOfNums mkS
  simp only [List.map_cons, List.map_nil]
  rw [show ((48 + x) % 256).toNat = 48 + x.toNat by omega]
theorem dec_len (u : Nat) (h : u < 18446744073709551616) : (Lib.decDigits u).length ≤ 20 := by
  rw [Lib.decDigits_length]; exact Lib.nDigits_le20 u h
theorem dec_loop : ∀ (u : Nat) (acc : List UInt8), u ≤ 9223372036854775807 → acc.length + (Lib.decDigits u).length ≤ 9223372036854775807 →
    Ev (fun k => spec_l14Dec.l0 k (u : Int) (mkS acc)) (mkS (Lib.decDigits u ++ acc)) := by
  intro u
  induction u using Nat.strongRecOn with
  | _ u ih =>
    intro acc hu hl
    refine Ev.next ?_
    simp only [spec_l14Dec.l0]
    have tm : Int.tmod (u : Int) 10 = ((u % 10 : Nat) : Int) := rfl
    have td : Int.tdiv (u : Int) 10 = ((u / 10 : Nat) : Int) := rfl
    by_cases h : u < 10
    · rw [Lib.decDigits, dif_pos h] at hl ⊢
      simp at hl
      refine Ev.neg (by omega) (Ev.got rfl ?_)
      rw [dg_eq (u : Int) (by omega) (by omega), mkS_append, mkS_size, mkS_size]
      refine Ev.pos (by simp; omega) (Ev.some_ ?_)
      simp
    · rw [Lib.decDigits, dif_neg h] at hl ⊢
      simp at hl
      refine Ev.pos (by omega) (Ev.got rfl ?_)
      rw [tm, td, dg_eq ((u % 10 : Nat) : Int) (by omega) (by omega), Int.toNat_natCast, mkS_append, mkS_size, mkS_size, w_id (x := ((u / 10 : Nat) : Int)) (by omega) (by omega)]
      refine Ev.pos (by simp; omega) ?_
      have := ih (u / 10) (by omega) (UInt8.ofNat (48 + u % 10) :: acc) (by omega) (by simp; omega)
      simpa using this
theorem dec_nonneg (u : Nat) (hu : u ≤ 9223372036854775807) : Ev (fun k => spec_l14Dec.f k (u : Int)) (mkS (Lib.decDigits u)) := by
  refine Ev.next ?_
  simp only [spec_l14Dec.f]
  refine Ev.neg (by omega) (Ev.neg (by omega) ?_)
  have := dec_loop u [] hu (by have := dec_len u (by omega); simp; omega)
  rw [List.append_nil] at this
  exact this
theorem dec_low : Lib.decDigits 9223372036854775808 = [57, 50, 50, 51, 51, 55, 50, 48, 51, 54, 56, 53, 52, 55, 55, 53, 56, 48, 56] := by
  rw [Lib.decDigits_eq, Lib.nDigits_unique 18 9223372036854775808 (by decide) (by decide)]
  decide +kernel
/-- l14Dec is the numeral. -/
theorem dec_ev (n : Int) (h0 : -9223372036854775808 ≤ n) (h1 : n ≤ 9223372036854775807) : Ev (fun k => spec_l14Dec.f k n) (mkS (Lib.itoa n)) := by
  by_cases hn : n < 0
  · refine Ev.next ?_
    simp only [spec_l14Dec.f]
    unfold Lib.itoa
    rw [if_pos hn]
    refine Ev.ite (fun h => ?_) (fun h => Ev.pos hn ?_)
    · obtain rfl : n = -9223372036854775808 := by omega
      rw [show (-9223372036854775808 : Int).natAbs = 9223372036854775808 from rfl, dec_low]
      exact Ev.some_ rfl
    · rw [w_id (x := -n) (by omega) (by omega)]
      have e : -n = ((n.natAbs : Nat) : Int) := by omega
      rw [e]
      refine (dec_nonneg n.natAbs (by omega)).bind ?_
      have := dec_len n.natAbs (by omega)
      rw [mkS_size]
      refine Ev.pos (by omega) (Ev.some_ ?_)
      exact mkS_append [45] _
  · obtain ⟨u, rfl⟩ : ∃ u : Nat, n = (u : Int) := ⟨n.toNat, by omega⟩
    unfold Lib.itoa
    rw [if_neg hn, Int.toNat_natCast]
    exact dec_nonneg u (by omega)
theorem itoa_len {n : Int} (h0 : -9223372036854775808 ≤ n) (h1 : n ≤ 9223372036854775807) : (Lib.itoa n).length ≤ 21 := by
  unfold Lib.itoa
  split
  · have := dec_len n.natAbs (by omega); simp; omega
  · have := dec_len n.toNat (by omega); omega
theorem dec_ge (u : Nat) : ∀ b ∈ Lib.decDigits u, 48 ≤ b.toNat ∧ b.toNat ≤ 57 := by
  induction u using Nat.strongRecOn with
  | _ u ih =>
    intro b hb
    rw [Lib.decDigits] at hb
    split at hb
    · simp only [List.mem_singleton] at hb
      subst hb
      rw [UInt8.toNat_ofNat']; omega
    · rw [List.mem_append, List.mem_singleton] at hb
      rcases hb with hb | rfl
      · exact ih (u / 10) (by omega) b hb
      · rw [UInt8.toNat_ofNat']; omega
/-- A value's text. -/
def valT (x : S57) : List UInt8 := if x.f0 = 1 then Lib.itoa x.f1 else if x.f0 = 3 then 99 :: Lib.itoa x.f1 else if x.f0 = 4 then 64 :: Lib.itoa x.f1 else [45]
def Int64 (n : Int) : Prop := -9223372036854775808 ≤ n ∧ n ≤ 9223372036854775807
theorem valT_len {x : S57} (h : Int64 x.f1) : (valT x).length ≤ 22 := by
  have := itoa_len h.1 h.2
  unfold valT
  repeat' split
  all_goals simp; try omega
def tailT (xs : List S57) : List UInt8 := xs.flatMap fun x => 32 :: valT x
/-- A loop that writes a text behind a text. -/
theorem writes (xs : List S57) (hx : ∀ x ∈ xs, Int64 x.f1) (hl : xs.length ≤ 1000000000) {P : Nat → ByteArray → Int → Option ByteArray}
    (hs : ∀ (i : Nat) (acc : List UInt8) r, i < xs.length → acc.length ≤ 1000000000000 → Int64 (rd_T57 xs i).f1 → Ev (fun k => P k (mkS (acc ++ 32 :: valT (rd_T57 xs i))) ((i : Int) + 1)) r → Ev (fun k => P k (mkS acc) (i : Int)) r)
    (he : ∀ acc, Ev (fun k => P k acc (xs.length : Int)) acc) (a : List UInt8) (ha : a.length ≤ 1000) : Ev (fun k => P k (mkS a) 0) (mkS (a ++ tailT xs)) := by
  have go : ∀ (d i : Nat) (acc : List UInt8), i + d = xs.length → acc.length ≤ 1000 + 23 * i → Ev (fun k => P k (mkS acc) (i : Int)) (mkS (acc ++ tailT (xs.drop i))) := by
    intro d
    induction d with
    | zero =>
      intro i acc hi _
      obtain rfl : i = xs.length := by omega
      simpa [tailT] using he (mkS acc)
    | succ d ih =>
      intro i acc hi hacc
      have hi' : i < xs.length := by omega
      have e : rd_T57 xs (i : Int) = xs[i] := by simp [rd_T57, hi']
      have hm : Int64 (rd_T57 xs (i : Int)).f1 := by rw [e]; exact hx _ (List.getElem_mem hi')
      have hv := valT_len hm
      refine hs i acc _ hi' (by omega) hm ?_
      have := ih (i + 1) (acc ++ 32 :: valT (rd_T57 xs (i : Int))) (by omega) (by simp; omega)
      rw [List.drop_eq_getElem_cons hi']
      simp only [tailT, List.flatMap_cons]
      rw [← e]
      simpa [tailT] using this
  simpa using go xs.length 0 a (by omega) (by omega)
theorem impl_ev (t : Int) (xs : List S57) (ht : Int64 t) (hx : ∀ x ∈ xs, Int64 x.f1) (hl : xs.length ≤ 1000000000) : Ev (fun k => impl_ThingText.f k t xs) (mkS (Lib.itoa t ++ tailT xs)) := by
  unfold impl_ThingText.f
  have hlen := itoa_len ht.1 ht.2
  refine Ev.got (show strconv_Itoa.f t = some (mkS (Lib.itoa t)) from if_pos ht) ?_
  refine writes xs hx hl (P := fun k a i => impl_ThingText.l0 k a xs (xs.length : Int) i) (fun i acc r hi hacc hm hr => ?_) (fun acc => ?_) _ (by omega)
  · refine Ev.next ?_
    simp only [impl_ThingText.l0]
    have hv := itoa_len hm.1 hm.2
    have hI : strconv_Itoa.f (rd_T57 xs (i : Int)).f1 = some (mkS (Lib.itoa (rd_T57 xs (i : Int)).f1)) := if_pos hm
    refine Ev.pos (by omega) (Ev.pos (by omega) (Ev.pos (by omega) ?_))
    rw [w_id (x := (i : Int) + 1) (by omega) (by omega)]
    unfold valT at hr
    refine Ev.ite (fun h1 => ?_) (fun h1 => Ev.ite (fun h2 => ?_) (fun h2 => Ev.ite (fun h3 => ?_) (fun h3 => ?_)))
    · rw [if_pos h1] at hr
      refine Ev.got hI ?_
      rw [show (⟨#[32]⟩ : ByteArray) = mkS [32] from rfl, mkS_append, mkS_append, mkS_size, mkS_size, mkS_size]
      exact Ev.pos (by omega) (Ev.pos (by simp; omega) hr)
    · rw [if_neg h1, if_pos h2] at hr
      refine Ev.got hI ?_
      rw [show (⟨#[32, 99]⟩ : ByteArray) = mkS [32, 99] from rfl, mkS_append, mkS_append, mkS_size, mkS_size, mkS_size]
      exact Ev.pos (by omega) (Ev.pos (by simp; omega) hr)
    · rw [if_neg h1, if_neg h2, if_pos h3] at hr
      refine Ev.got hI ?_
      rw [show (⟨#[32, 64]⟩ : ByteArray) = mkS [32, 64] from rfl, mkS_append, mkS_append, mkS_size, mkS_size, mkS_size]
      exact Ev.pos (by omega) (Ev.pos (by simp; omega) hr)
    · rw [if_neg h1, if_neg h2, if_neg h3] at hr
      rw [show (⟨#[32, 45]⟩ : ByteArray) = mkS [32, 45] from rfl, mkS_append, mkS_size]
      exact Ev.pos (by omega) hr
  · refine Ev.next ?_
    simp only [impl_ThingText.l0]
    exact Ev.neg (by omega) (Ev.now _)
theorem val_ev (x : S57) (h : Int64 x.f1) : Ev (fun k => spec_l13Val.f k x.f0 x.f1) (mkS (valT x)) := by
  unfold spec_l13Val.f valT
  have hv := itoa_len h.1 h.2
  refine Ev.ite (fun h1 => ?_) (fun h1 => Ev.ite (fun h2 => ?_) (fun h2 => Ev.ite (fun h3 => ?_) (fun h3 => ?_)))
  · rw [if_pos h1]; exact (dec_ev x.f1 h.1 h.2).bind (Ev.now _)
  · rw [if_neg h1, if_pos h2]
    refine (dec_ev x.f1 h.1 h.2).bind ?_
    rw [mkS_size]
    exact Ev.pos (by omega) (Ev.some_ (mkS_append [99] _))
  · rw [if_neg h1, if_neg h2, if_pos h3]
    refine (dec_ev x.f1 h.1 h.2).bind ?_
    rw [mkS_size]
    exact Ev.pos (by omega) (Ev.some_ (mkS_append [64] _))
  · rw [if_neg h1, if_neg h2, if_neg h3]; exact Ev.some_ rfl
theorem spec_ev (t : Int) (xs : List S57) (ht : Int64 t) (hx : ∀ x ∈ xs, Int64 x.f1) (hl : xs.length ≤ 1000000000) : Ev (fun k => spec_ThingText.f k t xs) (mkS (Lib.itoa t ++ tailT xs)) := by
  unfold spec_ThingText.f
  have hlen := itoa_len ht.1 ht.2
  refine (dec_ev t ht.1 ht.2).bind ?_
  refine writes xs hx hl (P := fun k a i => spec_ThingText.l0 k a i t xs) (fun i acc r hi hacc hm hr => ?_) (fun acc => ?_) _ (by omega)
  · refine Ev.next ?_
    simp only [spec_ThingText.l0]
    have hv := valT_len hm
    rw [mkS_size]
    refine Ev.pos (by omega) (Ev.pos (by omega) (Ev.pos (by omega) ((val_ev _ hm).bind ?_)))
    rw [w_id (x := (i : Int) + 1) (by omega) (by omega), show (⟨#[32]⟩ : ByteArray) = mkS [32] from rfl, mkS_append, mkS_size, mkS_size, mkS_append]
    refine Ev.pos (by simp; omega) ?_
    simpa using hr
  · refine Ev.next ?_
    simp only [spec_ThingText.l0]
    exact Ev.neg (by omega) (Ev.now _)
theorem xor_nonneg (x y : Int) (hx : 0 ≤ x) (hx1 : x < 4611686018427387904) (hy : 0 ≤ y) (hy1 : y < 4611686018427387904) : 0 ≤ Go.bits .xor .i64 x y := by
  obtain ⟨a, rfl⟩ := Int.eq_ofNat_of_zero_le hx
  obtain ⟨b, rfl⟩ := Int.eq_ofNat_of_zero_le hy
  have ha : a < 2 ^ 62 := by omega
  have hb : b < 2 ^ 62 := by omega
  have h := Nat.xor_lt_two_pow ha hb
  have ea : a % 2 ^ IntKind.i64.bits = a := Nat.mod_eq_of_lt (by show a < 2 ^ 64; omega)
  have eb : b % 2 ^ IntKind.i64.bits = b := Nat.mod_eq_of_lt (by show b < 2 ^ 64; omega)
  have e : Go.bits .xor .i64 (a : Int) (b : Int) = IntKind.i64.wrap (((a ^^^ b : Nat) : Nat) : Int) := by
    simp only [Go.bits, BitVec.ofInt_natCast, BitVec.toNat_xor, BitVec.toNat_ofNat, ea, eb]
  rw [e, IntKind.wrap_i64]
  omega
theorem rd_byte {b : List Int} (hb : ∀ x ∈ b, 0 ≤ x ∧ x ≤ 255) (i : Int) : 0 ≤ rd b i ∧ rd b i ≤ 255 := by
  unfold rd
  rw [List.getD_eq_getElem?_getD]
  cases h : b[i.toNat]? with
  | none => simp
  | some v => exact hb v (List.mem_of_getElem? h)
theorem pick_ev {b : List Int} (hb : ∀ x ∈ b, 0 ≤ x ∧ x ≤ 255) (hl : b.length ≤ 2000) (p n : Int) (hp : 0 ≤ p) (hp1 : p ≤ 1000000000) :
    ∃ v, Ev (fun k => spec_l14Rd_pick.f k b p n) (v, p + 1) ∧ 0 ≤ v ∧ (1 ≤ n → v < n) ∧ (n < 1 → v = 0) := by
  unfold spec_l14Rd_pick.f
  rw [w_id (x := p + 1) (by omega) (by omega)]
  by_cases hn : n < 1
  · refine ⟨0, Ev.pos hn (Ev.next ?_), by omega, fun h => by omega, fun _ => rfl⟩
    simp only [spec_l14Rd_pick.j0]
    exact Ev.pos trivial (Ev.now _)
  · suffices hs : ∃ v, Ev (fun k => spec_l14Rd_pick.j0 (k + 1) n ((b.length : Int) == 0) b (p + 1)) (v, p + 1) ∧ 0 ≤ v ∧ (1 ≤ n → v < n) ∧ (n < 1 → v = 0) by
      obtain ⟨v, h, r⟩ := hs
      exact ⟨v, Ev.neg hn (Ev.next h), r⟩
    have hm := fun x : Int => Int.tmod_nonneg (a := x) n
    have hm2 := fun x : Int => Int.tmod_lt_of_pos x (show 0 < n by omega)
    have ep : p + 1 - 1 = p := by omega
    simp only [spec_l14Rd_pick.j0, ep]
    by_cases h0 : (b.length : Int) = 0
    · exact ⟨0, Ev.pos (by simpa using h0) (Ev.now _), by omega, fun h => by omega, fun _ => rfl⟩
    · have e0 : ¬ ((((b.length : Int) == 0)) = true) := by simpa using h0
      rw [w_id (x := p) (by omega) (by omega)]
      by_cases hpl : p < (b.length : Int)
      · have r1 := rd_byte hb p
        refine ⟨_, Ev.neg e0 (Ev.pos hpl (Ev.pos hp (Ev.neg (by omega) (Ev.now _)))), ?_, fun _ => hm2 _, fun h => by omega⟩
        rw [w_id (by omega) (by omega)]
        exact hm _ r1.1
      · have hL : (0 : Int) < b.length := by omega
        have a0 : 0 ≤ Int.tmod p b.length := Int.tmod_nonneg _ hp
        have a1 := Int.tmod_lt_of_pos p hL
        rw [w_id (x := p * 7) (by omega) (by omega), w_id (x := p * 7 + 3) (by omega) (by omega)]
        have b0 : 0 ≤ Int.tmod (p * 7 + 3) b.length := Int.tmod_nonneg _ (by omega)
        have b1 := Int.tmod_lt_of_pos (p * 7 + 3) hL
        have r1 := rd_byte hb (Int.tmod p b.length)
        have r2 := rd_byte hb (Int.tmod (p * 7 + 3) b.length)
        have d0 : 0 ≤ Int.tdiv p b.length := Int.tdiv_nonneg hp (by omega)
        have d1 : Int.tdiv p b.length ≤ p := by rw [Int.tdiv_eq_ediv_of_nonneg hp]; exact Int.ediv_le_self _ hp
        generalize rd b (Int.tmod p b.length) = x at *
        generalize rd b (Int.tmod (p * 7 + 3) b.length) = y at *
        generalize Int.tdiv p b.length = d at *
        have e : wrap64 (wrap64 (wrap64 (wrap64 (wrap64 x * 131) + wrap64 (wrap64 y * 1117)) + wrap64 (p * 29)) + wrap64 (wrap64 d * 53)) = x * 131 + y * 1117 + p * 29 + d * 53 := by
          rw [w_id (x := x) (by omega) (by omega), w_id (x := y) (by omega) (by omega), w_id (x := d) (by omega) (by omega)]
          rw [w_id (x := x * 131) (by omega) (by omega), w_id (x := y * 1117) (by omega) (by omega), w_id (x := p * 29) (by omega) (by omega), w_id (x := d * 53) (by omega) (by omega)]
          rw [w_id (x := x * 131 + y * 1117) (by omega) (by omega), w_id (x := x * 131 + y * 1117 + p * 29) (by omega) (by omega), w_id (by omega) (by omega)]
        rw [e]
        have q0 : 0 ≤ Int.tdiv (x * 131 + y * 1117 + p * 29 + d * 53) 64 := Int.tdiv_nonneg (by omega) (by omega)
        have q1 : Int.tdiv (x * 131 + y * 1117 + p * 29 + d * 53) 64 ≤ x * 131 + y * 1117 + p * 29 + d * 53 := by rw [Int.tdiv_eq_ediv_of_nonneg (by omega)]; exact Int.ediv_le_self _ (by omega)
        rw [w_id (x := Int.tdiv _ 64) (by omega) (by omega)]
        refine ⟨_, Ev.neg e0 (Ev.neg hpl (Ev.neg h0 (Ev.pos a0 (Ev.pos a1 (Ev.pos b0 (Ev.pos b1 (Ev.neg (by omega) (Ev.now _)))))))), ?_, fun _ => hm2 _, fun h => by omega⟩
        exact hm _ (xor_nonneg _ _ (by omega) (by omega) q0 (by omega))
theorem open_ok {l : List Int} (hw : ∀ x ∈ l, (Lit.int .u8 x).wf = true) : ∃ b, spec_l14Open.f l = some (b, 0) ∧ (∀ x ∈ b, 0 ≤ x ∧ x ≤ 255) ∧ b.length ≤ 2000 := by
  have hx : ∀ x ∈ l, 0 ≤ x ∧ x ≤ 255 := fun x h => by simpa [Lit.wf, IntKind.min, IntKind.max, IntKind.signed, IntKind.bits] using hw x h
  unfold spec_l14Open.f
  by_cases h : (l.length : Int) > 2000
  · rw [if_pos h, if_pos (by omega)]
    exact ⟨_, rfl, fun x hm => hx x (List.mem_of_mem_take hm), by simp; omega⟩
  · rw [if_neg h]
    exact ⟨_, rfl, hx, by omega⟩
theorem num_ev {b : List Int} (hb : ∀ x ∈ b, 0 ≤ x ∧ x ≤ 255) (hl : b.length ≤ 2000) (p : Int) (hp : 0 ≤ p) (hp1 : p ≤ 1000000000) (l : List Int) (h0 : l ≠ []) :
    ∃ v, Ev (fun k => spec_l14Rd_num.f k b p l) (v, p + 1) ∧ v ∈ l := by
  have hlen : 0 < l.length := List.length_pos_iff.2 h0
  obtain ⟨v, h, v0, v1, _⟩ := pick_ev hb hl p (l.length : Int) hp hp1
  have hv := v1 (by omega)
  refine ⟨rd l v, ?_, ?_⟩
  · unfold spec_l14Rd_num.f
    refine h.bind ?_
    exact Ev.pos v0 (Ev.pos hv (Ev.now _))
  · unfold rd
    rw [List.getD_eq_getElem?_getD, List.getElem?_eq_getElem (by omega)]
    exact List.getElem_mem _
/-- From some number of rounds on there is an answer of which P holds. -/
def EvP {α : Type} (g : Nat → Option α) (P : α → Prop) : Prop := ∃ r, Ev g r ∧ P r
theorem EvP.bind {α β : Type} {g : Nat → Option α} {f : Nat → α → Option β} {P : α → Prop} {Q : β → Prop} (h : EvP g P) (k : ∀ a, P a → EvP (fun n => f n a) Q) : EvP (fun n => (g n).bind (f n)) Q := by
  obtain ⟨a, ha, hp⟩ := h
  obtain ⟨b, hb, hq⟩ := k a hp
  exact ⟨b, ha.bind hb, hq⟩
theorem EvP.got {α β : Type} {o : Option α} {f : Nat → α → Option β} {a : α} {Q : β → Prop} (h : o = some a) (k : EvP (fun n => f n a) Q) : EvP (fun n => o.bind (f n)) Q := by
  obtain ⟨b, hb, hq⟩ := k
  exact ⟨b, Ev.got h hb, hq⟩
theorem EvP.ite {α : Type} {c : Prop} [Decidable c] {f g : Nat → Option α} {Q : α → Prop} (h : c → EvP f Q) (k : ¬ c → EvP g Q) : EvP (fun n => if c then f n else g n) Q := by
  by_cases hc : c
  · obtain ⟨r, a, b⟩ := h hc
    exact ⟨r, Ev.pos hc a, b⟩
  · obtain ⟨r, a, b⟩ := k hc
    exact ⟨r, Ev.neg hc a, b⟩
theorem EvP.pos {α : Type} {c : Prop} [Decidable c] {f g : Nat → Option α} {Q : α → Prop} (hc : c) (h : EvP f Q) : EvP (fun n => if c then f n else g n) Q := EvP.ite (fun _ => h) (fun n => absurd hc n)
theorem EvP.neg {α : Type} {c : Prop} [Decidable c] {f g : Nat → Option α} {Q : α → Prop} (hc : ¬ c) (h : EvP g Q) : EvP (fun n => if c then f n else g n) Q := EvP.ite (fun n => absurd n hc) (fun _ => h)
theorem EvP.now {α : Type} {Q : α → Prop} {a : α} (h : Q a) : EvP (fun _ => some a) Q := ⟨a, Ev.now a, h⟩
theorem EvP.next {α : Type} {g : Nat → Option α} {Q : α → Prop} (k : EvP (fun n => g (n + 1)) Q) : EvP g Q := by
  obtain ⟨r, a, b⟩ := k
  exact ⟨r, Ev.next a, b⟩
theorem EvP.of {α : Type} {g : Nat → Option α} {Q : α → Prop} {r : α} (h : Ev g r) (q : Q r) : EvP g Q := ⟨r, h, q⟩
theorem EvP.weak {α : Type} {g : Nat → Option α} {P Q : α → Prop} (h : EvP g P) (k : ∀ a, P a → Q a) : EvP g Q := by
  obtain ⟨r, a, b⟩ := h
  exact ⟨r, a, k r b⟩
theorem EvP.congr {α : Type} {g f : Nat → Option α} {Q : α → Prop} (h : ∀ k, g k = f k) (k : EvP f Q) : EvP g Q := by
  obtain ⟨r, a, b⟩ := k
  exact ⟨r, Ev.congr h a, b⟩
theorem pickP {b : List Int} (hb : ∀ x ∈ b, 0 ≤ x ∧ x ≤ 255) (hl : b.length ≤ 2000) (p n : Int) (hp : 0 ≤ p) (hp1 : p ≤ 1000000000) :
    EvP (fun k => spec_l14Rd_pick.f k b p n) (fun r => r.2 = p + 1 ∧ 0 ≤ r.1 ∧ (1 ≤ n → r.1 < n) ∧ (n < 1 → r.1 = 0)) := by
  obtain ⟨v, h, r⟩ := pick_ev hb hl p n hp hp1
  exact ⟨_, h, rfl, r⟩
theorem numP {b : List Int} (hb : ∀ x ∈ b, 0 ≤ x ∧ x ≤ 255) (hl : b.length ≤ 2000) (p : Int) (hp : 0 ≤ p) (hp1 : p ≤ 1000000000) (l : List Int) (h0 : l ≠ []) :
    EvP (fun k => spec_l14Rd_num.f k b p l) (fun r => r.2 = p + 1 ∧ r.1 ∈ l) := by
  obtain ⟨v, h, r⟩ := num_ev hb hl p hp hp1 l h0
  exact ⟨_, h, rfl, r⟩
/-- What a draw keeps. -/
def Rd0 (b : List Int) : Prop := (∀ x ∈ b, 0 ≤ x ∧ x ≤ 255) ∧ b.length ≤ 2000
theorem valP {b : List Int} (hb : Rd0 b) (p a : Int) (hp : 0 ≤ p) (hp1 : p ≤ 1000000) (ha : a = 9) :
    EvP (fun k => spec_l5Val.f k b p a) (fun r => Int64 r.2.1 ∧ r.2.2 ≤ p + 3 ∧ p ≤ r.2.2) := by
  subst ha
  unfold spec_l5Val.f
  refine EvP.bind (pickP hb.1 hb.2 p 5 hp (by omega)) (fun r hr => ?_)
  obtain ⟨r1, r2, r3, r4⟩ := hr
  have r3' := r3 (by omega)
  have hq : 0 ≤ r.2 := by omega
  have hq1 : r.2 ≤ 1000000000 := by omega
  refine EvP.ite (fun _ => ?_) (fun _ => EvP.ite (fun _ => ?_) (fun _ => EvP.ite (fun _ => ?_) (fun _ => EvP.ite (fun _ => ?_) (fun _ => ?_))))
  · refine EvP.bind (numP hb.1 hb.2 r.2 hq hq1 _ (by simp)) (fun s hs => EvP.got rfl (EvP.now ?_))
    obtain ⟨s1, s2⟩ := hs
    simp at s2
    refine ⟨?_, by show s.2 ≤ _; omega, by show _ ≤ s.2; omega⟩
    show Int64 s.1
    unfold Int64; omega
  · refine EvP.bind (pickP hb.1 hb.2 r.2 20 hq hq1) (fun s hs => EvP.now ?_)
    obtain ⟨s1, s2, s3, s4⟩ := hs
    have s3' := s3 (by omega)
    have t0 : 0 ≤ Int.tdiv s.1 19 := Int.tdiv_nonneg s2 (by omega)
    have t1 : Int.tdiv s.1 19 ≤ s.1 := by rw [Int.tdiv_eq_ediv_of_nonneg s2]; exact Int.ediv_le_self _ s2
    refine ⟨?_, by show s.2 ≤ _; omega, by show _ ≤ s.2; omega⟩
    show Int64 (wrap64 _)
    rw [w_id (by omega) (by omega)]
    unfold Int64; omega
  · refine EvP.bind (numP hb.1 hb.2 r.2 hq hq1 _ (by simp)) (fun s hs => EvP.now ?_)
    obtain ⟨s1, s2⟩ := hs
    simp at s2
    refine ⟨?_, by show s.2 ≤ _; omega, by show _ ≤ s.2; omega⟩
    show Int64 s.1
    unfold Int64; omega
  · refine EvP.bind (numP hb.1 hb.2 r.2 hq hq1 _ (by simp)) (fun s hs => EvP.bind (pickP hb.1 hb.2 s.2 3 (by omega) (by omega)) (fun t ht => EvP.now ?_))
    obtain ⟨s1, s2⟩ := hs
    obtain ⟨t1, t2, t3, t4⟩ := ht
    have t3' := t3 (by omega)
    refine ⟨?_, by show t.2 ≤ _; omega, by show _ ≤ t.2; omega⟩
    show Int64 t.1
    unfold Int64; omega
  · rw [w_id (by omega) (by omega)]
    refine EvP.bind (pickP hb.1 hb.2 r.2 (9 + 1) hq hq1) (fun s hs => EvP.now ?_)
    obtain ⟨s1, s2, s3, s4⟩ := hs
    have s3' := s3 (by omega)
    refine ⟨?_, by show s.2 ≤ _; omega, by show _ ≤ s.2; omega⟩
    show Int64 s.1
    unfold Int64; omega
def Good (r : Int × List S57) : Prop := Int64 r.1 ∧ (∀ x ∈ r.2, Int64 x.f1) ∧ r.2.length ≤ 100
theorem loopP {b : List Int} (hb : Rd0 b) (t : Int) (ht : Int64 t) : ∀ (n : Nat) (p : Int) (xs : List S57), 0 ≤ p → p + 3 * n ≤ 1000 → (∀ x ∈ xs, Int64 x.f1) → xs.length + n ≤ 100 →
    EvP (fun k => spec_DrawThingText.l0 k (n : Int) b p t xs) Good := by
  intro n
  induction n with
  | zero =>
    intro p xs hp hp1 hx hl
    refine EvP.next ?_
    simp only [spec_DrawThingText.l0]
    exact EvP.neg (by omega) (EvP.now ⟨ht, hx, by show xs.length ≤ 100; omega⟩)
  | succ n ih =>
    intro p xs hp hp1 hx hl
    refine EvP.next ?_
    simp only [spec_DrawThingText.l0]
    refine EvP.pos (by omega) (EvP.bind (valP hb p 9 hp (by omega) rfl) (fun r hr => EvP.pos (by omega) ?_))
    obtain ⟨r1, r2, r3⟩ := hr
    rw [w_id (by omega) (by omega)]
    have := ih r.2.2 (xs ++ [⟨r.1, r.2.1⟩]) (by omega) (by omega) (fun x hx' => by
      rw [List.mem_append, List.mem_singleton] at hx'
      rcases hx' with h | rfl
      · exact hx x h
      · exact r1) (by simp; omega)
    simpa using this
theorem drawP (l : List Int) (hw : ∀ x ∈ l, (Lit.int .u8 x).wf = true) : EvP (fun k => spec_DrawThingText.f k l) Good := by
  unfold spec_DrawThingText.f
  obtain ⟨b, ho, h1, h2⟩ := open_ok hw
  refine EvP.got ho (EvP.bind (pickP h1 h2 0 9 (by omega) (by omega)) (fun r hr => EvP.bind (pickP h1 h2 r.2 5 (by omega) (by omega)) (fun s hs => ?_)))
  obtain ⟨r1, r2, r3, r4⟩ := hr
  obtain ⟨s1, s2, s3, s4⟩ := hs
  have r3' := r3 (by omega)
  have s3' := s3 (by omega)
  rw [w_id (by omega) (by omega)]
  obtain ⟨n, e⟩ := Int.eq_ofNat_of_zero_le s2
  rw [e]
  exact loopP ⟨h1, h2⟩ _ ⟨by omega, by omega⟩ n s.2 [] (by omega) (by omega) (by simp) (by simp; omega)
/-- How many spaces there are. -/
def spaces (l : List UInt8) : Nat := l.count 32
theorem dec_no (u : Nat) : (Lib.decDigits u).count 32 = 0 := List.count_eq_zero.2 fun h => by have := dec_ge u 32 h; simp at this
theorem itoa_no (n : Int) : (Lib.itoa n).count 32 = 0 := by
  unfold Lib.itoa
  split
  · rw [List.count_cons, dec_no]; simp
  · exact dec_no _
theorem valT_no (x : S57) : (valT x).count 32 = 0 := by
  unfold valT
  repeat' split
  · exact itoa_no _
  · rw [List.count_cons, itoa_no]; simp
  · rw [List.count_cons, itoa_no]; simp
  · decide
theorem tail_count (xs : List S57) : (tailT xs).count 32 = xs.length := by
  induction xs with
  | nil => rfl
  | cons x xs ih =>
    show (32 :: valT x ++ tailT xs).count 32 = _
    rw [List.cons_append, List.count_cons, List.count_append, valT_no, ih]
    simp
theorem bt_mkS (l : List UInt8) (i : Nat) (h : i < l.length) : bt (mkS l) (i : Int) = (l[i].toNat : Int) := by
  unfold bt
  rw [dif_pos (by rw [mkS_size]; exact h)]
  rfl
theorem count_loop (l : List UInt8) (hl : l.length ≤ 1000000000) (t : Int) (xs : List S57) (hq : EvP (fun k => laws_FnThingText.l0 k (mkS l) (l.count 32 : Int) (l.length : Int) t xs) (fun r => r = true)) :
    EvP (fun k => laws_FnThingText.l0 k (mkS l) 0 0 t xs) (fun r => r = true) := by
  have go : ∀ (d i : Nat), i + d = l.length → EvP (fun k => laws_FnThingText.l0 k (mkS l) ((l.take i).count 32 : Int) (i : Int) t xs) (fun r => r = true) := by
    intro d
    induction d with
    | zero =>
      intro i hi
      obtain rfl : i = l.length := by omega
      rw [List.take_length]
      exact hq
    | succ d ih =>
      intro i hi
      have hi' : i < l.length := by omega
      have hc := List.count_le_length (a := (32 : UInt8)) (l := l.take i)
      have hc2 : (l.take i).length ≤ l.length := by simp; omega
      have hn := ih (i + 1) (by omega)
      rw [List.take_add_one, List.getElem?_eq_getElem hi', Option.toList_some, List.count_append] at hn
      refine EvP.next ?_
      simp only [laws_FnThingText.l0]
      rw [mkS_size, bt_mkS l i hi']
      refine EvP.pos (by omega) (EvP.pos (by omega) ?_)
      rw [w_id (x := (i : Int) + 1) (by omega) (by omega)]
      refine EvP.ite (fun h => ?_) (fun h => ?_)
      · have e : l[i] = 32 := UInt8.toNat_inj.1 (by show l[i].toNat = 32; omega)
        rw [w_id (by omega) (by omega)]
        rw [e] at hn
        simpa using hn
      · have e : l[i] ≠ 32 := fun e => h (by rw [e]; rfl)
        rw [show List.count 32 [l[i]] = 0 from List.count_eq_zero.2 (by simpa using fun e2 => e e2.symm)] at hn
        simpa using hn
  simpa using go l.length 0 (by omega)
theorem FnThingText : laws_FnThingText.Pure := by
  intro l h0 h1 hw
  suffices h : EvP (fun k => laws_FnThingText.f k l) (fun r => r = true) by
    obtain ⟨r, hr, rfl⟩ := h
    exact Ev.rounds hr
  unfold laws_FnThingText.f
  refine EvP.ite (fun _ => EvP.now rfl) (fun _ => EvP.bind (drawP l hw) (fun r hr => ?_))
  obtain ⟨ht, hx, hxl⟩ := hr
  have len : ∀ xs : List S57, (∀ x ∈ xs, Int64 x.f1) → (tailT xs).length ≤ 23 * xs.length := by
    intro xs
    induction xs with
    | nil => intro _; simp [tailT]
    | cons x xs ih =>
      intro hx
      have a := ih (fun y hy => hx y (List.mem_cons_of_mem _ hy))
      have b := valT_len (hx x List.mem_cons_self)
      show (32 :: valT x ++ tailT xs).length ≤ _
      simp; omega
  have hl1 := len r.2 hx
  have hl2 := itoa_len ht.1 ht.2
  refine EvP.bind (EvP.of (impl_ev r.1 r.2 ht hx (by omega)) rfl) (fun s hs => ?_)
  subst hs
  refine count_loop _ (by simp; omega) _ _ ?_
  refine EvP.next ?_
  simp only [laws_FnThingText.l0]
  rw [mkS_size]
  refine EvP.neg (by omega) (EvP.got rfl (EvP.pos (by simp; omega) (EvP.got rfl (EvP.got rfl (EvP.pos (by simp; omega) ?_)))))
  refine EvP.bind (EvP.of (spec_ev r.1 r.2 ht hx (by omega)) rfl) (fun s hs => ?_)
  subst hs
  refine EvP.pos rfl (EvP.pos ?_ ?_)
  · rw [List.count_append, itoa_no, tail_count]; omega
  have hy : ∀ x ∈ r.2 ++ [(⟨2, 0⟩ : S57)], Int64 x.f1 := by
    intro x hx'
    rw [List.mem_append, List.mem_singleton] at hx'
    rcases hx' with h | rfl
    · exact hx x h
    · exact ⟨by decide, by decide⟩
  refine EvP.bind (EvP.of (impl_ev r.1 ([] ++ r.2 ++ [(⟨2, 0⟩ : S57)]) ht (by simpa using hy) (by simp; omega)) rfl) (fun s hs => ?_)
  subst hs
  refine EvP.pos (by simp; omega) (EvP.now ?_)
  rw [show (⟨#[32, 45]⟩ : ByteArray) = mkS [32, 45] from rfl, mkS_append, beq_iff_eq]
  rw [show Lib.itoa r.1 ++ tailT ([] ++ r.2 ++ [(⟨2, 0⟩ : S57)]) = (Lib.itoa r.1 ++ tailT r.2) ++ [32, 45] from by simp [tailT, valT]]
end Go.Proofs.YthomfkdoaembbaaDoor.Pure
