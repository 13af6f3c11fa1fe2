import Derived.Test.YthagkkmbbncclaaDoorRc3
import Derived.Test.YthagkkmbbncclaaDoorEqr
import Derived.Test.YthagkkmbbncclaaDoorMvC
namespace Go.Proofs.YthagkkmbbncclaaDoor
open Go Go.Mv
set_option maxRecDepth 8000
/-! ### Reading a record: P5.1, P6.4, P12.1 -/
def dotD (ys : List UInt8) : Dr (Nat × Nat) :=
  match numD 15 ys with
  | .err e => .err e
  | .ok s r => match numD 4294967295 r with
    | .err e => .err e
    | .ok c r' => if c = 0 then .err 50 else .ok (s, c) r'
def cntD : Nat → List UInt8 → Dr (List Nat)
  | 0, ys => .ok [] ys
  | k + 1, ys => match numD 4294967295 ys with
    | .err e => .err e
    | .ok n r => match cntD k r with
      | .err e => .err e
      | .ok l r' => .ok (n :: l) r'
def vecOf (l : List Nat) : Nat → Int := fun i => ((l.getD i 0 : Nat) : Int)
def vecD (ys : List UInt8) : Dr (List Nat) :=
  match numD 16 ys with
  | .err e => .err e
  | .ok m r => match cntD m r with
    | .err e => .err e
    | .ok l r' => if 0 < m ∧ l.getD (m - 1) 0 = 0 then .err 62 else .ok l r'
def rawD (n : Nat) (ys : List UInt8) : Dr (List UInt8) := if ys.length < n then .err 10 else .ok (ys.take n) (ys.drop n)
def bytesD (most : Nat) (ys : List UInt8) : Dr (List UInt8) :=
  match numD most ys with
  | .err e => .err e
  | .ok n r => rawD n r
def tipOf (l : List UInt8) : Nat → Int := fun i => ((l.getD i 0).toNat : Int)
def fineD (q : Rec) (r : List UInt8) : Dr Rec := bif recOkB q then .ok q r else .err 120
def recD (ys : List UInt8) : Dr Rec :=
  match dotD ys with
  | .err e => .err e
  | .ok d r1 => match vecD r1 with
    | .err e => .err e
    | .ok l r2 => match bytesD 100 r2 with
      | .err e => .err e
      | .ok b r3 => match numD 1 r3 with
        | .err e => .err e
        | .ok h r4 => if h = 1 then
            match rawD 32 r4 with
            | .err e => .err e
            | .ok t r5 => fineD ⟨d.1, d.2, vecOf l, ⟨b.toArray⟩, true, tipOf t⟩ r5
          else fineD ⟨d.1, d.2, vecOf l, ⟨b.toArray⟩, false, fun _ => 0⟩ r4

def preD (l : List Nat) : Dr (List Nat) → Dr (List Nat)
  | .ok l' r => .ok (l ++ l') r
  | .err e => .err e
theorem cntD_step {k n : Nat} {l : List Nat} {ys r : List UInt8} (h : numD 4294967295 ys = .ok n r) : preD l (cntD (k + 1) ys) = preD (l ++ [n]) (cntD k r) := by
  simp only [cntD, h]
  cases cntD k r with
  | err e => rfl
  | ok l' r' => simp [preD]
theorem cntD_fail {k : Nat} {l : List Nat} {ys : List UInt8} {e : Int} (h : numD 4294967295 ys = .err e) : preD l (cntD (k + 1) ys) = .err e := by
  simp only [cntD, h, preD]
theorem cntD_ok : ∀ (k : Nat) (ys : List UInt8) (l : List Nat) (r : List UInt8), cntD k ys = .ok l r → l.length = k ∧ ys = (l.map lebL).flatten ++ r ∧ ∀ n ∈ l, n ≤ 4294967295
  | 0, ys, l, r, h => by simp only [cntD, Dr.ok.injEq] at h; obtain ⟨rfl, rfl⟩ := h; simp
  | k + 1, ys, l, r, h => by
    simp only [cntD] at h
    split at h
    · cases h
    · rename_i n r1 hn
      split at h
      · cases h
      · rename_i l' r' hl
        simp only [Dr.ok.injEq] at h
        obtain ⟨rfl, rfl⟩ := h
        obtain ⟨h1, h2, h3⟩ := cntD_ok k r1 l' r' hl
        obtain ⟨h4, h5, _⟩ := numD_ok hn
        refine ⟨by simp [h1], by rw [h4, h2]; simp, fun x hx => ?_⟩
        rcases List.mem_cons.1 hx with rfl | hx
        · exact h5
        · exact h3 x hx
theorem cntD_map : ∀ (l : List Nat) (r : List UInt8), (∀ n ∈ l, n ≤ 4294967295) → cntD l.length ((l.map lebL).flatten ++ r) = .ok l r
  | [], r, _ => by simp [cntD]
  | n :: l, r, h => by
    have hn := h n (by simp)
    have h1 := numD_leb (n := n) (most := 4294967295) ((l.map lebL).flatten ++ r) (by omega) hn
    have h2 := cntD_map l r (fun x hx => h x (by simp [hx]))
    simp only [List.length_cons, cntD, List.map_cons, List.flatten_cons, List.append_assoc, h1, h2]

theorem vecOf_ok {l : List Nat} (h : ∀ n ∈ l, n ≤ 4294967295) : VecOk (vecOf l) := fun i => by
  simp only [vecOf]
  by_cases hi : i < l.length
  · have := h _ (List.getElem_mem hi)
    simp only [List.getD_eq_getElem?_getD, List.getElem?_eq_getElem hi, Option.getD_some]; omega
  · simp [List.getD_eq_getElem?_getD, List.getElem?_eq_none (by omega : l.length ≤ i)]
theorem vecU_vecOf (l : List Nat) : ∀ k, k ≤ l.length → vecU (vecOf l) k = ((l.take k).map lebL).flatten
  | 0, _ => by simp [vecU]
  | k + 1, h => by
    have hk : k < l.length := by omega
    rw [vecU, vecU_vecOf l k (by omega), List.take_succ_eq_append_getElem hk, List.map_append, List.flatten_append]
    simp [vecOf, List.getD_eq_getElem?_getD, hk]
theorem vManyTo_zero {v : Nat → Int} {m : Nat} : ∀ k, m ≤ k → (∀ i, m ≤ i → i < k → ¬ 0 < v i) → vManyTo v k = vManyTo v m
  | 0, h, _ => by obtain rfl : m = 0 := by omega
                  rfl
  | k + 1, h, hz => by
    by_cases hm : m = k + 1
    · rw [hm]
    · rw [vManyTo_F (hz k (by omega) (by omega))]
      exact vManyTo_zero k (by omega) (fun i h1 h2 => hz i h1 (by omega))
theorem vMany_vecOf {l : List Nat} (h16 : l.length ≤ 16) (hz : ¬ (0 < l.length ∧ l.getD (l.length - 1) 0 = 0)) : vMany (vecOf l) = l.length := by
  unfold vMany
  rw [vManyTo_zero (m := l.length) 16 h16 (fun i h1 _ => by simp [vecOf, List.getD_eq_getElem?_getD, List.getElem?_eq_none h1])]
  cases hl : l.length with
  | zero => rfl
  | succ k =>
    have : 0 < vecOf l k := by
      simp only [vecOf]
      have h0 : l.getD k 0 ≠ 0 := fun h => hz ⟨by omega, by rw [hl]; exact h⟩
      omega
    rw [vManyTo_T this]
theorem vecL_vecOf {l : List Nat} (h16 : l.length ≤ 16) (hz : ¬ (0 < l.length ∧ l.getD (l.length - 1) 0 = 0)) : vecL (vecOf l) = lebL l.length ++ (l.map lebL).flatten := by
  rw [vecL, vMany_vecOf h16 hz, vecU_vecOf l _ (Nat.le_refl _), List.take_length]
theorem vecD_ok {ys r : List UInt8} {l : List Nat} (h : vecD ys = .ok l r) : ys = vecL (vecOf l) ++ r ∧ VecOk (vecOf l) ∧ l.length ≤ 16 := by
  simp only [vecD] at h
  split at h
  · cases h
  · rename_i m r1 hm
    split at h
    · cases h
    · rename_i l' r' hl
      split at h
      · cases h
      · rename_i hz
        simp only [Dr.ok.injEq] at h
        obtain ⟨rfl, rfl⟩ := h
        obtain ⟨h1, h2, h3⟩ := cntD_ok _ _ _ _ hl
        obtain ⟨h4, h5, _⟩ := numD_ok hm
        subst h1
        exact ⟨by rw [vecL_vecOf h5 hz, h4, h2, List.append_assoc], vecOf_ok h3, h5⟩
/-- The counters as a list, up to the last that is told. -/
def cnts (v : Nat → Int) : List Nat := (List.range (vMany v)).map fun i => (v i).toNat
theorem vecU_eq (v : Nat → Int) : ∀ k, vecU v k = (((List.range k).map fun i => (v i).toNat).map lebL).flatten
  | 0 => by simp [vecU]
  | k + 1 => by rw [vecU, vecU_eq v k, List.range_succ]; simp
theorem vManyTo_last (v : Nat → Int) : ∀ k, 0 < vManyTo v k → 0 < v (vManyTo v k - 1)
  | 0, h => by simp [vManyTo] at h
  | k + 1, h => by
    by_cases hk : 0 < v k
    · rw [vManyTo_T hk]; simpa using hk
    · rw [vManyTo_F hk] at h ⊢; exact vManyTo_last v k h
theorem vManyTo_above (v : Nat → Int) : ∀ k i, vManyTo v k ≤ i → i < k → ¬ 0 < v i
  | 0, i, _, h => by omega
  | k + 1, i, h1, h2 => by
    by_cases hk : 0 < v k
    · rw [vManyTo_T hk] at h1; omega
    · rw [vManyTo_F hk] at h1
      by_cases hi : i = k
      · rw [hi]; exact hk
      · exact vManyTo_above v k i h1 (by omega)
theorem vecOf_cnts {v : Nat → Int} (hv : VecOk v) {i : Nat} (hi : i < 16) : vecOf (cnts v) i = v i := by
  simp only [vecOf, cnts]
  by_cases h : i < vMany v
  · have := hv i
    simp [List.getD_eq_getElem?_getD, h]
    omega
  · have h1 := vManyTo_above v 16 i (by unfold vMany at h; omega) hi
    have := hv i
    simp [List.getD_eq_getElem?_getD, h]
    omega
theorem vecD_back {v : Nat → Int} (hv : VecOk v) (r : List UInt8) : vecD (vecL v ++ r) = .ok (cnts v) r := by
  have h16 : vMany v ≤ 16 := vManyTo_le v 16
  have hlen : (cnts v).length = vMany v := by simp [cnts]
  have h1 := numD_leb (n := vMany v) (most := 16) (vecU v (vMany v) ++ r) (by omega) h16
  have h2 := cntD_map (cnts v) r (fun n hn => by
    obtain ⟨i, _, rfl⟩ := List.mem_map.1 hn
    have := hv i; omega)
  rw [hlen] at h2
  have h3 : vecU v (vMany v) = ((cnts v).map lebL).flatten := vecU_eq v _
  rw [← h3] at h2
  simp only [vecD, vecL, List.append_assoc, h1, h2]
  rw [if_neg]
  rintro ⟨h0, hz⟩
  have hl := vManyTo_last v 16 h0
  have h5 := vecOf_cnts hv (i := vMany v - 1) (by omega)
  simp only [vecOf, hz] at h5
  unfold vMany at h5
  omega

theorem dotD_ok {ys r : List UInt8} {d : Nat × Nat} (h : dotD ys = .ok d r) : ys = dotL d.1 d.2 ++ r ∧ dotOk d.1 d.2 = true := by
  simp only [dotD] at h
  split at h
  · cases h
  · rename_i s r1 hs
    split at h
    · cases h
    · rename_i c r2 hc
      split at h
      · cases h
      · rename_i h0
        simp only [Dr.ok.injEq] at h
        obtain ⟨rfl, rfl⟩ := h
        obtain ⟨h1, h2, _⟩ := numD_ok hs
        obtain ⟨h3, h4, _⟩ := numD_ok hc
        exact ⟨by rw [h1, h3]; simp [dotL], dotOk_iff.2 (by omega)⟩
theorem dotD_back {s c : Int} (h : dotOk s c = true) (r : List UInt8) : dotD (dotL s c ++ r) = .ok (s.toNat, c.toNat) r := by
  have hd := dotOk_iff.1 h
  have h1 := numD_leb (n := s.toNat) (most := 15) (lebL c.toNat ++ r) (by omega) (by omega)
  have h2 := numD_leb (n := c.toNat) (most := 4294967295) r (by omega) (by omega)
  simp only [dotD, dotL, List.append_assoc, h1, h2]
  rw [if_neg (by omega)]
theorem rawD_back (b r : List UInt8) : rawD b.length (b ++ r) = .ok b r := by
  simp only [rawD]; rw [if_neg (by simp), List.take_left' rfl, List.drop_left' rfl]
theorem rawD_ok {n : Nat} {ys b r : List UInt8} (h : rawD n ys = .ok b r) : ys = b ++ r ∧ b.length = n := by
  simp only [rawD] at h
  split at h
  · cases h
  · rename_i hl
    simp only [Dr.ok.injEq] at h
    obtain ⟨rfl, rfl⟩ := h
    exact ⟨(List.take_append_drop n ys).symm, by simp; omega⟩
theorem bytesD_back {most : Nat} {b : List UInt8} (r : List UInt8) (h : b.length ≤ most) (h2 : b.length < 18446744073709551616) : bytesD most (lebL b.length ++ b ++ r) = .ok b r := by
  have h1 := numD_leb (n := b.length) (most := most) (b ++ r) h2 h
  rw [List.append_assoc]
  simp only [bytesD, h1, rawD_back]
theorem bytesD_ok {most : Nat} {ys b r : List UInt8} (h : bytesD most ys = .ok b r) : ys = lebL b.length ++ b ++ r ∧ b.length ≤ most := by
  simp only [bytesD] at h
  split at h
  · cases h
  · rename_i n r1 hn
    obtain ⟨h1, h2, _⟩ := numD_ok hn
    obtain ⟨h3, h4⟩ := rawD_ok h
    subst h4
    exact ⟨by rw [h1, h3, List.append_assoc], h2⟩
theorem tipOf_ok (l : List UInt8) : IdOk (tipOf l) := fun i => by
  have := (l.getD i 0).toNat_lt
  simp only [tipOf]; omega
theorem tipL_tipOf {l : List UInt8} (h : l.length = 32) : tipL (tipOf l) = l := by
  apply List.ext_getElem?
  intro i
  by_cases hi : i < 32
  · have h2 : l[i]? = some (l[i]'(by omega)) := List.getElem?_eq_getElem (by omega)
    simp only [tipL, tipOf, List.getElem?_map, List.getElem?_range hi, Option.map_some, List.getD_eq_getElem?_getD, h2, Option.getD_some, Int.toNat_natCast, UInt8.ofNat_toNat]
  · rw [List.getElem?_eq_none (by rw [tipL_len]; omega), List.getElem?_eq_none (by omega)]
theorem tipOf_tipL {t : Nat → Int} (ht : IdOk t) {i : Nat} (hi : i < 32) : tipOf (tipL t) i = t i := by
  have := ht i
  simp only [tipOf, tipL, List.getD_eq_getElem?_getD, List.getElem?_map, List.getElem?_range hi, Option.map_some, Option.getD_some]
  rw [UInt8.toNat_ofNat_of_lt' (show (t i).toNat < 256 by omega)]; omega

theorem sameN_zero {a : Nat → Int} (n : Nat) (h : sameN n a (fun _ => 0) = true) : ∀ i, i < n → a i = 0 := sameN_iff.1 h

/-- P12.5: a record is read from its bytes, whatever stands behind them, as it was. -/
theorem recD_back {q : Rec} (hq : RecOk q) (hok : recOkB q = true) (hlen : q.ref.size ≤ 100) (r : List UInt8) : ∃ q', recD (recL q ++ r) = .ok q' r ∧ SameR q' q := by
  have hdot := recOk_dot hok
  have hd := dotOk_iff.1 hdot
  have hsz : q.ref.data.toList.length = q.ref.size := by simp
  have key : ∀ t : List UInt8, recD (recH q ++ t) = match numD 1 t with
        | .err e => .err e
        | .ok h r4 => if h = 1 then
            match rawD 32 r4 with
            | .err e => .err e
            | .ok t r5 => fineD ⟨(q.s.toNat : Nat), (q.c.toNat : Nat), vecOf (cnts q.ctx), q.ref, true, tipOf t⟩ r5
          else fineD ⟨(q.s.toNat : Nat), (q.c.toNat : Nat), vecOf (cnts q.ctx), q.ref, false, fun _ => 0⟩ r4 := fun t => by
    have h1 := dotD_back hdot (vecL q.ctx ++ (lebL q.ref.data.toList.length ++ q.ref.data.toList ++ t))
    have h2 := vecD_back hq.ctx (lebL q.ref.data.toList.length ++ q.ref.data.toList ++ t)
    have h3 := bytesD_back (most := 100) (b := q.ref.data.toList) t (by omega) (by omega)
    have e : recH q ++ t = dotL q.s q.c ++ (vecL q.ctx ++ (lebL q.ref.data.toList.length ++ q.ref.data.toList ++ t)) := by simp [recH]
    rw [e]
    simp only [recD, h1, h2, h3, Array.toArray_toList]
  have hs : ((q.s.toNat : Nat) : Int) = q.s := by omega
  have hc : ((q.c.toNat : Nat) : Int) = q.c := by omega
  cases hh : q.has with
  | true =>
    have h4 := numD_leb (n := 1) (most := 1) (tipL q.tip ++ r) (by decide) (by decide)
    have h5 := rawD_back (tipL q.tip) r
    rw [tipL_len] at h5
    refine ⟨⟨q.s, q.c, vecOf (cnts q.ctx), q.ref, true, tipOf (tipL q.tip)⟩, ?_, rfl, rfl, fun i hi => vecOf_cnts hq.ctx hi, rfl, hh.symm, fun i hi => tipOf_tipL hq.tip hi⟩
    have e : recL q ++ r = recH q ++ (lebL 1 ++ (tipL q.tip ++ r)) := by simp [recL, hh]
    rw [e, key, h4]
    simp only [if_true, h5, hs, hc]
    have hs : SameR ⟨q.s, q.c, vecOf (cnts q.ctx), q.ref, true, tipOf (tipL q.tip)⟩ q := ⟨rfl, rfl, fun i hi => vecOf_cnts hq.ctx hi, rfl, hh.symm, fun i hi => tipOf_tipL hq.tip hi⟩
    simp only [fineD, hs.ok, hok, cond_true]
  | false =>
    have h4 := numD_leb (n := 0) (most := 1) r (by decide) (by decide)
    have ht : ∀ i, i < 32 → q.tip i = 0 := by
      have : tip0 q = true := by
        simp only [recOkB, hh, Bool.false_or, Bool.and_eq_true] at hok
        exact hok.2
      exact sameN_zero 32 this
    refine ⟨⟨q.s, q.c, vecOf (cnts q.ctx), q.ref, false, fun _ => 0⟩, ?_, rfl, rfl, fun i hi => vecOf_cnts hq.ctx hi, rfl, hh.symm, fun i hi => (ht i hi).symm⟩
    have e : recL q ++ r = recH q ++ (lebL 0 ++ r) := by simp [recL, hh]
    rw [e, key, h4]
    simp only [show ¬ (0 : Nat) = 1 by decide, if_false, hs, hc]
    have hs : SameR ⟨q.s, q.c, vecOf (cnts q.ctx), q.ref, false, fun _ => 0⟩ q := ⟨rfl, rfl, fun i hi => vecOf_cnts hq.ctx hi, rfl, hh.symm, fun i hi => (ht i hi).symm⟩
    simp only [fineD, hs.ok, hok, cond_true]

theorem fineD_ok {q q' : Rec} {r r' : List UInt8} (h : fineD q r = .ok q' r') : q' = q ∧ r' = r ∧ recOkB q = true := by
  simp only [fineD] at h
  cases hq : recOkB q with
  | true => simp only [hq, cond_true, Dr.ok.injEq] at h; exact ⟨h.1.symm, h.2.symm, rfl⟩
  | false => simp [hq] at h
/-- What is read of any bytes has just these. -/
theorem recD_ok {ys r : List UInt8} {q : Rec} (h : recD ys = .ok q r) : ys = recL q ++ r ∧ RecOk q ∧ recOkB q = true ∧ q.ref.size ≤ 100 := by
  simp only [recD] at h
  split at h
  · cases h
  rename_i d r1 h1
  split at h
  · cases h
  rename_i l r2 h2
  split at h
  · cases h
  rename_i b r3 h3
  split at h
  · cases h
  rename_i hn r4 h4
  obtain ⟨a1, a2⟩ := dotD_ok h1
  have hd := dotOk_iff.1 a2
  obtain ⟨b1, b2, b3⟩ := vecD_ok h2
  obtain ⟨c1, c2⟩ := bytesD_ok h3
  obtain ⟨e1, e2, _⟩ := numD_ok h4
  split at h
  · rename_i hn1
    subst hn1
    split at h
    · cases h
    rename_i t r5 h5
    obtain ⟨rfl, rfl, hok⟩ := fineD_ok h
    obtain ⟨f1, f2⟩ := rawD_ok h5
    refine ⟨?_, ⟨?_, ?_, b2, tipOf_ok _⟩, hok, by show b.toArray.size ≤ 100; simpa using c2⟩
    · simp only [recL, recH, cond_true, tipL_tipOf f2]
      rw [a1, b1, c1, e1, f1]; simp
    · simp only [i64Ok]; omega
    · simp only [i64Ok]; omega
  · rename_i hn1
    obtain rfl : hn = 0 := by omega
    obtain ⟨rfl, rfl, hok⟩ := fineD_ok h
    refine ⟨?_, ⟨?_, ?_, b2, fun i => by simp⟩, hok, by show b.toArray.size ≤ 100; simpa using c2⟩
    · simp only [recL, recH, cond_false]
      rw [a1, b1, c1, e1]; simp
    · simp only [i64Ok]; omega
    · simp only [i64Ok]; omega

end Go.Proofs.YthagkkmbbncclaaDoor
