import Derived.Test.YtmjmaloapafnlaaGreatDoorGaf
import Derived.Lib.IndexAny
import Derived.Deep.AppendSrc
namespace Go.Mv
open Go
def byteC (c : UInt8) : List Value := [bcell c]
theorem byteC_len (c : UInt8) : (byteC c).length = 1 := rfl
theorem byteC_one (c : UInt8) : ∀ v ∈ byteC c, v.oneCell' = true := by
  intro v hv
  simp only [byteC, List.mem_cons, List.not_mem_nil, or_false] at hv
  subst hv; rfl
theorem cat_byteC : ∀ l : List UInt8, cat byteC l = bcells l
  | [] => rfl
  | c :: r => by
    have := cat_byteC r
    simp only [cat, bcells, List.flatMap_cons, List.map_cons] at this ⊢
    rw [this]; rfl
theorem Rdx.of_b {H : Mem} {v : Value} {ys : List UInt8} (h : Rdb H v ys) : Rdx 1 byteC H v ys := by
  rcases h with h | ⟨b, off, cap, h1, h2, h3⟩
  · exact .inl h
  · refine .inr ⟨b, off, cap, h1, h2, fun w hw i x hx j u hu => ?_⟩
    have hj : j = 0 := by have := (List.getElem?_eq_some_iff.1 hu).1; rw [byteC_len] at this; omega
    subst hj
    have hu' : bcell x = u := by simpa [byteC] using hu
    rw [Nat.mul_one, Nat.add_zero]
    exact h3 w hw i u (by simp [bcells, hx, hu'])
theorem Rdb.of_x {H : Mem} {v : Value} {ys : List UInt8} (h : Rdx 1 byteC H v ys) : Rdb H v ys := by
  rcases h with h | ⟨b, off, cap, h1, h2, h3⟩
  · exact .inl h
  · refine .inr ⟨b, off, cap, h1, h2, fun w hw j u hu => ?_⟩
    obtain ⟨x, hx, rfl⟩ : ∃ x, ys[j]? = some x ∧ bcell x = u := by simpa [bcells] using hu
    have := h3 w hw j x hx 0 (bcell x) rfl
    rwa [Nat.mul_one, Nat.add_zero] at this
theorem bldMx_b {u : TypeId} {l : List UInt8} {st : SnkS} : bldMx u byteC l st = bldM u l st := by
  rcases st with _ | ⟨b, cap, tl⟩
  · rfl
  · simp only [bldMx, bldM, cat_byteC]
theorem bldVx_b {l : List UInt8} {st : SnkS} : bldVx l st = bldV l st := by
  rcases st with _ | ⟨b, cap, tl⟩ <;> rfl
theorem BldOk.of_snk {l : List UInt8} {st : SnkS} (h : SnkOk l st) : BldOk 1 byteC l st := by
  rcases st with _ | ⟨b, cap, tl⟩
  · exact h
  · exact ⟨h.1, h.2.1, by rw [cat_byteC]; exact h.2.2⟩
def toB (z : Int) : UInt8 := UInt8.ofNat z.toNat
theorem bcell_toB {z : Int} (h0 : 0 ≤ z) (h1 : z < 256) : Value.int .u8 z = bcell (toB z) := bcell_of (by omega) (by omega)
theorem byte_put {c : UInt8} {z : Int} (h0 : 0 ≤ z) (h1 : z < 256) : byteC (toB z) = (putL (byteC c).toArray 0 (Value.int .u8 z).cells.toList).toList := by
  rw [bcell_toB h0 h1]; rfl
section rd
variable {P : Program} {ty : TypeId} {E : Env} {L : Mem} {x : Operand} {v : Value} {T : TypeId}
theorem RD.mkIface {d0 : TypeDesc} (hu : P.underlying T = some d0) (hd : ∀ m, d0 ≠ .interface m) (hx : evalE E x = some v) : RD P (.makeInterface T x) ty E L (.iface T v) := fun ρ w _ _ _ _ hρ _ => by
  simp only [execOp, hρ _ _ hx, Instr.makeInterface, Sem.run_bind, run_underlying hu, Result.andThen_ok]
  cases d0 with
  | interface m => exact absurd rfl (hd m)
  | _ => rfl
theorem RD.str_of_rune {U : TypeId} {k : IntKind} {n : Int} {dS : TypeDesc} (hS : ∀ w, (underlying T).run P w = .ok dS w) (hU : ∀ w, (underlying U).run P w = .ok .string w) (hx : evalE E x = some (.int k n)) :
    RD P (.convert T U x) ty E L (.string (Utf8.encode n)) := fun ρ w _ _ _ _ hρ _ => by
  simp [execOp, hρ _ _ hx, convert, hS, hU, Conv.intToString]
end rd
theorem lt_data {s : ByteArray} {i : Nat} (h : i < s.size) : i < s.data.toList.length := by simpa using h
theorem get!_data {s : ByteArray} {i : Nat} (h : i < s.size) : s.get! i = gt s.data.toList i := by
  have h' : i < s.data.toList.length := lt_data h
  have e1 : s.get! i = s.data[i]! := rfl
  have h2 : i < s.data.size := h
  rw [e1, getElem!_pos s.data i h2]
  have := gt_some h'
  rw [List.getElem?_eq_getElem h'] at this
  simpa using (Option.some.inj this)
def sepB (c : UInt8) : Bool := c == 47 || c == 0
def hasSep (s : ByteArray) : Bool := s.data.toList.any sepB
theorem decode_step {s : ByteArray} {pos : Nat} (h : pos < s.size) : 1 ≤ (Utf8.decode s pos).2 ∧ pos + (Utf8.decode s pos).2 ≤ s.size := by
  simp only [Utf8.decode]
  repeat' split
  all_goals first | (simp_all; omega) | (simp only [Bool.and_eq_true, decide_eq_true_eq] at *; omega)
theorem decode_span {s : ByteArray} {pos : Nat} (h : pos < s.size) (ha : ¬ (s.get! pos).toNat < 128) : 128 ≤ (Utf8.decode s pos).1 ∧ ∀ j, pos ≤ j → j < pos + (Utf8.decode s pos).2 → 128 ≤ (s.get! j).toNat := by
  have e0 : s.get! (pos + 0) = s.get! pos := rfl
  simp only [Utf8.decode, e0, ha, if_false]
  have one : ∀ j, pos ≤ j → j < pos + 1 → 128 ≤ (s.get! j).toNat := fun j h1 h2 => by
    obtain rfl : j = pos := by omega
    omega
  have co : ∀ k, ((s.get! (pos + k)).toNat / 64 == 2) = true → 128 ≤ (s.get! (pos + k)).toNat := fun k hk => by
    have := eq_of_beq hk; omega
  split
  · rename_i h1
    simp only [Bool.and_eq_true] at h1
    have c1 := co 1 h1.2.2
    split
    · exact ⟨by assumption, fun j h2 h3 => by
        have : j = pos ∨ j = pos + 1 := by simp only at h3; omega
        rcases this with rfl | rfl
        · omega
        · exact c1⟩
    · exact ⟨by decide, one⟩
  · split
    · rename_i h1
      simp only [Bool.and_eq_true] at h1
      have c1 := co 1 h1.1.2.2
      have c2 := co 2 h1.2.2
      split
      · rename_i h4
        simp only [Bool.and_eq_true, decide_eq_true_eq, ge_iff_le] at h4
        exact ⟨by simp only; omega, fun j h2 h3 => by
          have : j = pos ∨ j = pos + 1 ∨ j = pos + 2 := by simp only at h3; omega
          rcases this with rfl | rfl | rfl
          · omega
          · exact c1
          · exact c2⟩
      · exact ⟨by decide, one⟩
    · split
      · rename_i h1
        simp only [Bool.and_eq_true] at h1
        have c1 := co 1 h1.1.1.2.2
        have c2 := co 2 h1.1.2.2
        have c3 := co 3 h1.2.2
        split
        · rename_i h4
          simp only [Bool.and_eq_true, decide_eq_true_eq, ge_iff_le] at h4
          exact ⟨by simp only; omega, fun j h2 h3 => by
            have : j = pos ∨ j = pos + 1 ∨ j = pos + 2 ∨ j = pos + 3 := by simp only at h3; omega
            rcases this with rfl | rfl | rfl | rfl
            · omega
            · exact c1
            · exact c2
            · exact c3⟩
        · exact ⟨by decide, one⟩
      · exact ⟨by decide, one⟩
theorem sepB_big {c : UInt8} (h : 128 ≤ c.toNat) : sepB c = false := by
  have h1 : c ≠ 47 := fun e => by subst e; revert h; decide
  have h2 : c ≠ 0 := fun e => by subst e; revert h; decide
  simp [sepB, h1, h2]
theorem sepB_iff {c : UInt8} : sepB c = true ↔ (c.toNat : Int) = 47 ∨ (c.toNat : Int) = 0 := by
  have h1 : (c = 47) ↔ (c.toNat : Int) = 47 := by rw [UInt8.toNat_inj.symm]; show c.toNat = 47 ↔ _; omega
  have h2 : (c = 0) ↔ (c.toNat : Int) = 0 := by rw [UInt8.toNat_inj.symm]; show c.toNat = 0 ↔ _; omega
  rw [← h1, ← h2]
  simp [sepB]
theorem sepB_nat {c : UInt8} : sepB c = decide ((c.toNat : Int) = 47 ∨ (c.toNat : Int) = 0) := by
  rw [Bool.eq_iff_iff, sepB_iff]; simp
/-- No separator among the first. -/
def NoSep (s : ByteArray) (pos : Nat) : Prop := ∀ j, j < pos → sepB (s.get! j) = false
theorem NoSep.step {s : ByteArray} {pos : Nat} {z : Int} (h : NoSep s pos) (hp : pos < s.size) (hz : decide (0 ≤ z) = decide (((Utf8.decode s pos).1 : Int) = 47 ∨ ((Utf8.decode s pos).1 : Int) = 0)) (hn : ¬ 0 ≤ z) : NoSep s (pos + (Utf8.decode s pos).2) := fun j hj => by
  rcases Nat.lt_or_ge j pos with h1 | h1
  · exact h j h1
  by_cases ha : (s.get! pos).toNat < 128
  · have hd : Utf8.decode s pos = ((s.get! pos).toNat, 1) := by
      have e0 : s.get! (pos + 0) = s.get! pos := rfl
      simp only [Utf8.decode, e0, ha, if_true]
    rw [hd] at hj hz
    simp only at hj
    obtain rfl : j = pos := by omega
    rw [sepB_nat, ← hz]
    simpa using hn
  · exact sepB_big ((decode_span hp ha).2 j h1 hj)
theorem NoSep.none {s : ByteArray} {pos : Nat} (h : NoSep s pos) (hp : s.size ≤ pos) : hasSep s = false := by
  unfold hasSep
  refine List.any_eq_false.2 fun c hc => ?_
  obtain ⟨i, hi, rfl⟩ := List.getElem_of_mem hc
  have hi' : i < s.size := by simpa using hi
  have := h i (by omega)
  rw [get!_data hi'] at this
  have e := gt_some (l := s.data.toList) hi
  rw [List.getElem?_eq_getElem hi] at e
  rw [Option.some.inj e, this]; simp
theorem NoSep.hit {s : ByteArray} {pos : Nat} {z : Int} (hp : pos < s.size) (hz : decide (0 ≤ z) = decide (((Utf8.decode s pos).1 : Int) = 47 ∨ ((Utf8.decode s pos).1 : Int) = 0)) (hn : 0 ≤ z) : hasSep s = true := by
  have hr := of_decide_eq_true (hz.symm.trans (decide_eq_true hn))
  by_cases ha : (s.get! pos).toNat < 128
  · have hd : Utf8.decode s pos = ((s.get! pos).toNat, 1) := by
      have e0 : s.get! (pos + 0) = s.get! pos := rfl
      simp only [Utf8.decode, e0, ha, if_true]
    rw [hd] at hr
    have hs : sepB (s.get! pos) = true := by rw [sepB_nat]; exact decide_eq_true hr
    unfold hasSep
    rw [get!_data hp] at hs
    exact List.any_eq_true.2 ⟨_, gt_mem (lt_data hp), hs⟩
  · have := (decode_span hp ha).1
    omega
theorem enc_big {r : Int} (h : 128 ≤ r) : 2 ≤ (Utf8.encode r).size ∧ (Utf8.encode r).size ≤ 4 ∧ ((Utf8.encode r).size = 2 → 128 ≤ (gt (Utf8.encode r).data.toList 1).toNat) := by
  have hc : 128 ≤ (if Utf8.valid r then r.toNat else Utf8.runeError) := by
    split
    · omega
    · decide
  simp only [Utf8.encode]
  generalize (if Utf8.valid r then r.toNat else Utf8.runeError) = c at hc
  rw [if_neg (by omega)]
  split
  · refine ⟨Nat.le_refl _, Nat.le_of_ble_eq_true rfl, fun _ => ?_⟩
    show 128 ≤ (UInt8.ofNat (128 + c % 64)).toNat
    rw [UInt8.toNat_ofNat_of_lt' (by show 128 + c % 64 < 256; omega)]
    omega
  · split
    · exact ⟨Nat.le_of_ble_eq_true rfl, Nat.le_of_ble_eq_true rfl, fun h => absurd (show (3 : Nat) = 2 from h) (by decide)⟩
    · exact ⟨Nat.le_of_ble_eq_true rfl, Nat.le_of_ble_eq_true rfl, fun h => absurd (show (4 : Nat) = 2 from h) (by decide)⟩
theorem indexAny_sep (s : ByteArray) : decide (0 ≤ Lib.indexAny s.data.toList [47, 0]) = hasSep s := by
  unfold hasSep
  induction s.data.toList with
  | nil => rfl
  | cons b l ih =>
    have hge := Lib.indexAny_ge [47, 0] l
    have e : ([47, 0] : List UInt8).contains b = sepB b := by rw [Bool.eq_iff_iff]; simp [sepB]
    rw [Lib.indexAny, e, List.any_cons]
    cases sepB b with
    | true => rfl
    | false =>
      rw [Bool.false_or, ← ih]
      simp only [Bool.false_eq_true, if_false]
      split
      · rename_i h; rw [eq_of_beq h]
      · rename_i h
        have h' : Lib.indexAny l [47, 0] ≠ -1 := by simpa using h
        exact decide_eq_decide.2 (by omega)
theorem Ret.new2 {P : Program} {f : FuncId} {args : Array Value} {w : World} {v : Value} {o1 o2 : Obj} (h : Calls P f args w fun e w' => e = .returned v ∧ w' = (w.alloc o1).alloc o2) : Calls P f args w (Ret w [] fun x H1 => x = v ∧ H1 = []) :=
  h.mono (by rintro e w' ⟨rfl, rfl⟩; exact ⟨v, [], rfl, ⟨rfl, rfl⟩, ((Fr.refl w []).alloc o1).alloc o2, Hp.nil _, by simp⟩)
end Go.Mv

namespace Go.Mv
open Go Go.Proofs
def rotr (x : UInt32) (n : Nat) : UInt32 := (x >>> UInt32.ofNat n) ||| (x <<< UInt32.ofNat (32 - n))
def shaK : List UInt32 := [
  0x428a2f98, 0x71374491, 0xb5c0fbcf, 0xe9b5dba5, 0x3956c25b, 0x59f111f1, 0x923f82a4, 0xab1c5ed5,
  0xd807aa98, 0x12835b01, 0x243185be, 0x550c7dc3, 0x72be5d74, 0x80deb1fe, 0x9bdc06a7, 0xc19bf174,
  0xe49b69c1, 0xefbe4786, 0x0fc19dc6, 0x240ca1cc, 0x2de92c6f, 0x4a7484aa, 0x5cb0a9dc, 0x76f988da,
  0x983e5152, 0xa831c66d, 0xb00327c8, 0xbf597fc7, 0xc6e00bf3, 0xd5a79147, 0x06ca6351, 0x14292967,
  0x27b70a85, 0x2e1b2138, 0x4d2c6dfc, 0x53380d13, 0x650a7354, 0x766a0abb, 0x81c2c92e, 0x92722c85,
  0xa2bfe8a1, 0xa81a664b, 0xc24b8b70, 0xc76c51a3, 0xd192e819, 0xd6990624, 0xf40e3585, 0x106aa070,
  0x19a4c116, 0x1e376c08, 0x2748774c, 0x34b0bcb5, 0x391c0cb3, 0x4ed8aa4a, 0x5b9cca4f, 0x682e6ff3,
  0x748f82ee, 0x78a5636f, 0x84c87814, 0x8cc70208, 0x90befffa, 0xa4506ceb, 0xbef9a3f7, 0xc67178f2]
/-- Eight words. -/
structure S8 where
  a : UInt32
  b : UInt32
  c : UInt32
  d : UInt32
  e : UInt32
  f : UInt32
  g : UInt32
  h : UInt32
instance : Inhabited S8 := ⟨⟨0, 0, 0, 0, 0, 0, 0, 0⟩⟩
def shaB : S8 := ⟨0x6a09e667, 0xbb67ae85, 0x3c6ef372, 0xa54ff53a, 0x510e527f, 0x9b05688c, 0x1f83d9ab, 0x5be0cd19⟩
/-- The next word of a block: the block's own ones, then mixed ones; w: the words that there are. -/
def be4 (x : List UInt8) (i : Nat) : UInt32 := ((((gt x (4 * i)).toUInt32 <<< UInt32.ofNat 24) ||| ((gt x (4 * i + 1)).toUInt32 <<< UInt32.ofNat 16)) ||| ((gt x (4 * i + 2)).toUInt32 <<< UInt32.ofNat 8)) ||| (gt x (4 * i + 3)).toUInt32
def shaLow (a : UInt32) : UInt32 := (rotr a 7 ^^^ rotr a 18) ^^^ (a >>> UInt32.ofNat 3)
def shaHigh (b : UInt32) : UInt32 := (rotr b 17 ^^^ rotr b 19) ^^^ (b >>> UInt32.ofNat 10)
def shaNext (x : List UInt8) (w : List UInt32) (i : Nat) : UInt32 := if i < 16 then be4 x i else ((gt w (i - 16) + shaLow (gt w (i - 15))) + gt w (i - 7)) + shaHigh (gt w (i - 2))
def shaWs (x : List UInt8) : Nat → List UInt32
  | 0 => []
  | n + 1 => shaWs x n ++ [shaNext x (shaWs x n) n]
theorem shaWs_len (x : List UInt8) : ∀ n, (shaWs x n).length = n
  | 0 => rfl
  | n + 1 => by simp [shaWs, shaWs_len x n]
theorem shaWs_take (x : List UInt8) {n : Nat} : ∀ {m : Nat}, n ≤ m → (shaWs x m).take n = shaWs x n
  | 0, h => by obtain rfl : n = 0 := by omega
               rfl
  | m + 1, h => by
    rcases Nat.lt_or_ge n (m + 1) with h1 | h1
    · rw [shaWs, List.take_append_of_le_length (by rw [shaWs_len]; omega), shaWs_take x (by omega)]
    · obtain rfl : n = m + 1 := by omega
      rw [List.take_of_length_le (by rw [shaWs_len]; omega)]
def shaOne (t : S8) (k w : UInt32) : UInt32 := (((t.h + ((rotr t.e 6 ^^^ rotr t.e 11) ^^^ rotr t.e 25)) + ((t.e &&& t.f) ^^^ (~~~t.e &&& t.g))) + k) + w
def shaTwo (t : S8) : UInt32 := ((rotr t.a 2 ^^^ rotr t.a 13) ^^^ rotr t.a 22) + (((t.a &&& t.b) ^^^ (t.a &&& t.c)) ^^^ (t.b &&& t.c))
def shaStep (t : S8) (k w : UInt32) : S8 := ⟨shaOne t k w + shaTwo t, t.a, t.b, t.c, t.d + shaOne t k w, t.e, t.f, t.g⟩
/-- A state behind the first n rounds of a block. -/
def shaRun (s : S8) (x : List UInt8) : Nat → S8
  | 0 => s
  | n + 1 => shaStep (shaRun s x n) (gt shaK n) (gt (shaWs x 64) n)
def addS8 (s t : S8) : S8 := ⟨t.a + s.a, t.b + s.b, t.c + s.c, t.d + s.d, t.e + s.e, t.f + s.f, t.g + s.g, t.h + s.h⟩
def shaMix (s : S8) (x : List UInt8) : S8 := addS8 s (shaRun s x 64)
/-- A state behind as many whole blocks as there are. -/
def shaAll (s : S8) (l : List UInt8) : S8 := if h : 64 ≤ l.length then shaAll (shaMix s (l.take 64)) (l.drop 64) else s
  termination_by l.length
  decreasing_by simp only [List.length_drop]; omega
def shaLeft (l : List UInt8) : List UInt8 := l.drop (l.length / 64 * 64)
def shaTail (n : Nat) : List UInt8 := 128 :: List.replicate ((119 - n % 64) % 64) 0 ++ (List.range 8).map fun i => UInt8.ofNat (8 * n / 2 ^ (8 * (7 - i)))
def S8.l (s : S8) : List UInt32 := [s.a, s.b, s.c, s.d, s.e, s.f, s.g, s.h]
/-- The hash of bytes, as an id. -/
def shaF (l : List UInt8) : Nat → Int := fun i => if i < 32 then (((gt (shaAll shaB (l ++ shaTail l.length)).l (i / 4) >>> UInt32.ofNat (24 - 8 * (i % 4))).toUInt8.toNat : Nat) : Int) else 0
theorem shaF_ok (l : List UInt8) : IdOk (shaF l) := fun i => by
  unfold shaF; split
  · have := blt8 ((gt (shaAll shaB (l ++ shaTail l.length)).l (i / 4) >>> UInt32.ofNat (24 - 8 * (i % 4))).toUInt8); omega
  · omega
end Go.Mv

namespace Go.Mv
open Go Go.Proofs
def wfL (n : Nat) (f : Nat → UInt32) : List Value := (List.range n).map fun i => wdV (f i)
def wfV (n : Nat) (f : Nat → UInt32) : Value := .agg (wfL n f).toArray
def bfL (n : Nat) (f : Nat → UInt8) : List Value := (List.range n).map fun i => bcell (f i)
def bfV (n : Nat) (f : Nat → UInt8) : Value := .agg (bfL n f).toArray
theorem wfL_len (n : Nat) (f : Nat → UInt32) : (wfL n f).length = n := by simp [wfL]
theorem bfL_len (n : Nat) (f : Nat → UInt8) : (bfL n f).length = n := by simp [bfL]
theorem wfL_get {n : Nat} (f : Nat → UInt32) {i : Nat} (h : i < n) : (wfL n f)[i]? = some (wdV (f i)) := by
  simp [wfL, h]
theorem bfL_get {n : Nat} (f : Nat → UInt8) {i : Nat} (h : i < n) : (bfL n f)[i]? = some (bcell (f i)) := by
  simp [bfL, h]
theorem wf_get {n : Nat} {f : Nat → UInt32} {z : Int} (k : Nat) (hz : z.toNat = k) (hk : k < n) : cget (wfV n f).cells (0 + z.toNat * 1) = some (.int .u32 ((f k).toNat : Int)) := by
  rw [cget_eq, hz, Nat.zero_add, Nat.mul_one]
  show (wfL n f).toArray[k]? = _
  rw [List.getElem?_toArray, wfL_get f hk]; rfl
theorem bf_get {n : Nat} {f : Nat → UInt8} {z : Int} (k : Nat) (hz : z.toNat = k) (hk : k < n) : cget (bfV n f).cells (0 + z.toNat * 1) = some (.int .u8 ((f k).toNat : Int)) := by
  rw [cget_eq, hz, Nat.zero_add, Nat.mul_one]
  show (bfL n f).toArray[k]? = _
  rw [List.getElem?_toArray, bfL_get f hk]; rfl
theorem wf_cell {n : Nat} {f : Nat → UInt32} (k : Nat) (hk : k < n) : cget (wfV n f).cells k = some (.int .u32 ((f k).toNat : Int)) := by
  rw [cget_eq]
  show (wfL n f).toArray[k]? = _
  rw [List.getElem?_toArray, wfL_get f hk]; rfl
def upd {α : Type} (f : Nat → α) (k : Nat) (y : α) : Nat → α := fun i => if i = k then y else f i
theorem upd_same {α : Type} {f : Nat → α} {k : Nat} {y : α} : upd f k y k = y := if_pos rfl
theorem upd_other {α : Type} {f : Nat → α} {k i : Nat} {y : α} (h : i ≠ k) : upd f k y i = f i := if_neg h
theorem wfL_set (n : Nat) (f : Nat → UInt32) (k : Nat) (y : UInt32) : (wfL n f).set k (wdV y) = wfL n (upd f k y) := by
  apply List.ext_getElem?
  intro i
  rw [List.getElem?_set, wfL_len]
  by_cases hi : i < n
  · rw [wfL_get _ hi, wfL_get _ hi]
    by_cases h : k = i
    · subst h; rw [if_pos rfl, if_pos hi, upd_same]
    · rw [if_neg h, upd_other (Ne.symm h)]
  · rw [List.getElem?_eq_none (l := wfL n (upd f k y)) (by rw [wfL_len]; omega), List.getElem?_eq_none (l := wfL n f) (by rw [wfL_len]; omega)]
    split
    · rw [if_neg (by omega)]
    · rfl
theorem wf_put {n : Nat} {f : Nat → UInt32} {z : Int} (k : Nat) (hz : z.toNat = k) (y : UInt32) : (wfV n f).cells.setIfInBounds (0 + z.toNat * 1) (.int .u32 (y.toNat : Int)) = (wfV n (upd f k y)).cells := by
  rw [hz, Nat.zero_add, Nat.mul_one]
  apply Array.toList_inj.1
  show ((wfL n f).toArray.setIfInBounds k (wdV y)).toList = wfL n (upd f k y)
  rw [Array.toList_setIfInBounds, ← wfL_set]
theorem wf_lt {n : Nat} {f : Nat → UInt32} {z : Int} (k : Nat) (hz : z.toNat = k) (hk : k < n) : Nat.blt (0 + z.toNat * 1) (wfV n f).cells.size = true := by
  have : (wfV n f).cells.size = n := by show (wfL n f).toArray.size = n; rw [List.size_toArray, wfL_len]
  rw [this, hz, Nat.zero_add, Nat.mul_one]
  exact Nat.ble_eq_true_of_le hk
theorem wf_all (n : Nat) (f : Nat → UInt32) : Value.agg ((wfV n f).cells.extract 0 (0 + n)) = wfV n f := by
  show Value.agg ((wfL n f).toArray.extract 0 (0 + n)) = .agg (wfL n f).toArray
  rw [Nat.zero_add]
  congr 1
  have : n = (wfL n f).toArray.size := by rw [List.size_toArray, wfL_len]
  conv => lhs; arg 3; rw [this]
  rw [Array.extract_size]
theorem bf_all (n : Nat) (f : Nat → UInt8) : Value.agg ((bfV n f).cells.extract 0 (0 + n)) = bfV n f := by
  show Value.agg ((bfL n f).toArray.extract 0 (0 + n)) = .agg (bfL n f).toArray
  rw [Nat.zero_add]
  congr 1
  have : n = (bfL n f).toArray.size := by rw [List.size_toArray, bfL_len]
  conv => lhs; arg 3; rw [this]
  rw [Array.extract_size]
theorem wf_one (n : Nat) (f : Nat → UInt32) : ((wfV n f).cells.toList.all fun u => u.oneCell') = true := by
  show ((wfL n f).toArray.toList.all fun u => u.oneCell') = true
  rw [List.toList_toArray, List.all_eq_true]
  intro v hv
  obtain ⟨i, _, rfl⟩ := List.mem_map.1 hv
  rfl
theorem wfL_congr {n : Nat} {f g : Nat → UInt32} (h : ∀ i, i < n → f i = g i) : wfL n f = wfL n g := by
  apply List.map_congr_left
  intro i hi
  rw [h i (List.mem_range.1 hi)]
theorem wfV_congr {n : Nat} {f g : Nat → UInt32} (h : ∀ i, i < n → f i = g i) : wfV n f = wfV n g := by rw [wfV, wfV, wfL_congr h]
/-- A turn to the left by less than nothing. -/
theorem bits_and31 : ∀ n : Fin 32, 1 ≤ n.val → bits .and .u64 (IntKind.u64.wrap (-((n.val : Nat) : Int))) 31 = ((32 - n.val : Nat) : Int) := by decide
section rd
variable {P : Program} {ty : TypeId} {E : Env} {L : Mem} {v u : Value} {x y z : Operand} {T U : TypeId} {a b : UInt32}
theorem RD.rotk {n : Nat} (h1 : 1 ≤ n) (h2 : n < 32) (hx : evalE E x = some (.int .u64 (IntKind.u64.wrap (-(n : Int))))) (hy : evalE E y = some (.int .u64 31)) : RD P (.binOp .and T x y U) ty E L (.int .u64 ((32 - n : Nat) : Int)) :=
  RD.bin .and (fun w => by rw [← bits_and31 ⟨n, h2⟩ h1]; simp [eqGuard, binOp, intBits_eq]) hx hy
/-- A cell of an array's own value. -/
theorem RD.indexV {len : Nat} {el : TypeId} {cs : Array Value} {k : IntKind} {i : Nat} {z : Int} (hT : P.underlying T = some (.array len el)) (hz : ∀ w, (sizeOf el).run P w = .ok 1 w) (ha : ∀ w, (isAgg el).run P w = .ok false w) (hx : evalE E x = some (.agg cs)) (hy : evalE E y = some (.int k z)) (hzi : z = (i : Int)) (hi : i < len) (hv : cget cs i = some v) : RD P (.index T x y) ty E L v := fun ρ w _ _ _ _ hρ _ => by
  subst hzi
  rw [cget_eq] at hv
  have h1 : (i : Int) < (len : Int) := by omega
  simp [execOp, hρ _ _ hx, hρ _ _ hy, Instr.index, asIntOf, run_underlying hT, hz, part, ha, hv]
  omega
end rd
section done
variable {P : Program} {fn : Func} {E : Env} {H : Mem} {post : Value → Mem → Prop} {X : List Nat}
/-- The end of a function that bears a mark of a range; results out of slots and cells. -/
theorem pn_doneFC {l : List ResultVar} {vs : List Value} {H1 : Mem} {w0 : World} {N : Nat} (D : Nat) (A : Mem) (hA : ∀ a, cnt a ((D, .deferred (some [])) :: A) ≤ cnt a H) (hl : fn.results = l.toArray) (hv : resF P E A l vs) (hp : post (tupV vs) H1) (hH : ∀ w, Hp A w → Hp H1 w) (hn : ∀ e ∈ H1, e.1 ∈ X ∨ w0.heap.size ≤ e.1) (hD : w0.heap.size ≤ D) :
    PN ⟨N, [{ target := .collected D, args := #[] }], w0, X⟩ (retP P fn (Ret w0 X post)) E H := fun a w' hr hs => by
  unfold retP
  rw [hr.defers]
  have hpm : Hp ((D, .deferred (some [])) :: A) w' := hs.hp.sp hA
  have hget : w'.heap[D]? = some (.deferred (some [])) := hpm.at_ (D, _) (by simp)
  refine ⟨by simp, .inl ⟨D, _, rfl, run_takeDeferred hget, ?_⟩⟩
  have hp2 : Hp A (w'.putObj D (.deferred none)) := (hpm.putObj (o' := .deferred none)).sub (List.sublist_cons_self _ _)
  exact ⟨_, resultsF_run hr _ hp2 hl hv, _, H1, rfl, hp, hs.fr.putObj D _ (.inr hD), hH _ hp2, hn⟩
end done
def gtf {α : Type} [Inhabited α] (l : List α) : Nat → α := fun i => gt l i
end Go.Mv

namespace Go.Mv
open Go Go.Proofs
def clipV : Value → Value
  | .slice a n _ => .slice a n n
  | v => v
theorem Rdx.clip {α : Type} {sz : Nat} {enc : α → List Value} {H : Mem} {v : Value} {xs : List α} (h : Rdx sz enc H v xs) : Rdx sz enc H (clipV v) xs := by
  rcases h with ⟨⟨a0, rfl⟩, rfl⟩ | ⟨b, off, cap, rfl, h1, h2⟩
  · exact .inl ⟨⟨_, rfl⟩, rfl⟩
  · exact .inr ⟨b, off, xs.length, rfl, Nat.le_refl _, h2⟩
theorem Rdb.clip {H : Mem} {v : Value} {xs : List UInt8} (h : Rdb H v xs) : Rdb H (clipV v) xs := Rdb.of_x (Rdx.of_b h).clip
section rd
variable {P : Program} {ty : TypeId} {E : Env} {L : Mem} {v u : Value} {x y z : Operand} {T U : TypeId}
theorem RD.clipX {α : Type} {sz : Nat} {enc : α → List Value} {H : Mem} {xs : List α} {el : TypeId} {hi mx : Operand} {k1 k2 : IntKind} (hT : ∀ w, (underlying T).run P w = .ok (.slice el) w) (hz : ∀ w, (sizeOf el).run P w = .ok sz w) (hx : evalE E x = some v) (hb : Rdx sz enc H v xs)
    (hh : evalE E hi = some (.int k1 (xs.length : Int))) (hm : evalE E mx = some (.int k2 (xs.length : Int))) : RD P (.slice T x none (some hi) (some mx)) ty E L (clipV v) := fun ρ w _ _ _ _ hρ _ => by
  rcases hb with ⟨⟨a0, rfl⟩, rfl⟩ | ⟨b, off, cap, rfl, h3, h4⟩
  · simp [execOp, Instr.sliceAt, Instr.slice, Instr.sliceBounds, Instr.sliceBound, asIntOf, hT, hz, hρ _ _ hx, hρ _ _ hh, hρ _ _ hm, clipV]
  · simp [execOp, Instr.sliceAt, Instr.slice, Instr.sliceBounds, Instr.sliceBound, asIntOf, hT, hz, hρ _ _ hx, hρ _ _ hh, hρ _ _ hm, clipV, Addr.add, h3]
end rd
section te
variable {P : Program} {rd : Option Nat} {ops : Array Oper} {p : Pst} {q : List Nat} {C : Ctx} {E : Env} {M L : Mem} {k : Nat} {tr : Tr} {ty : TypeId} {ps : String} {af : Array Edge} {g : Option (Nat × Bool)} {d : Nat}
/-- append onto a slice whose room is cut off: it is laid anew, or nothing is appended. -/
theorem TE_appendC {α : Type} {sz by' : Nat} {enc : α → List Value} {s x : Operand} {sT el : TypeId} {z xv v : Value} {xs ys : List α} {H0 H2 : Mem} (hk : ∀ x, (enc x).length = sz) (h1 : ∀ x, ∀ v ∈ enc x, v.oneCell' = true)
    (ho : ops[k]? = some ⟨some d, .call ⟨.builtin .append, #[s, x], #[sT, sT]⟩, ty, ps, af, g⟩) (hl : ld ops q k = true) (hg : GOK ops E g) (hd : Nat.blt d C.N = true)
    (hT : P.underlying sT = some (.slice el)) (hI : ElI P el sz by' z) (hzs : Nat.beq z.cells.size sz = true) (hsz : Nat.blt 0 sz = true)
    (hs : evalE E s = some (clipV v)) (hx : evalE E x = some xv) (hb : Rdx sz enc H0 v xs) (hb0 : ∀ w, Hp (M ++ L) w → Hp H0 w) (hb2 : Rdx sz enc H2 xv ys) (hb3 : ∀ w, Hp (M ++ L) w → Hp H2 w)
    (hlen : xs.length + ys.length ≤ 137438953472) (hby : Nat.ble by' 1024 = true)
    (h : ∀ v' Hn, Rdx sz enc (Hn ++ H0) v' (xs ++ ys) → (∀ e ∈ Hn, C.w0.heap.size ≤ e.1 ∨ e.1 ∈ C.X) → TE P rd ops p q C L tr ((d, v') :: E) (Hn ++ M)) : TE P rd ops p q C L (.op k tr) E M := by
  have hs0 : 0 < sz := by simpa using hsz
  have hbytes : (xs.length + ys.length) * by' ≤ 140737488355328 := Nat.le_trans (Nat.mul_le_mul hlen (Nat.le_of_ble_eq_true hby)) (by decide)
  have hbc := hb.clip
  by_cases hy : ys = []
  · subst hy
    obtain ⟨a, c, rfl⟩ := hb2.shape
    obtain ⟨a', c', rfl⟩ := hb.shape
    have h9 := h (clipV (.slice a' xs.length c')) [] (by rw [List.append_nil]; exact hbc) (by intro e he; cases he)
    exact TE_l ho hl hg rfl (RD.append0 hT hI hs hx (Nat.le_refl _)) hd h9
  · refine TE_loud ho hl hg rfl fun a w hr hst => ?_
    obtain ⟨i0, hi0, hz0, hz1, hz2⟩ := info_parts hI
    subst hz1
    obtain ⟨ad, c, rfl, hread⟩ := hb2.src (C := C) hk hs0 hy hb3
    have hsrc : Go.Src P i0.size sT (.slice (some ad) ys.length c) ys.length (cat enc ys) w := Go.Src.ofSlice w hT ad _ c _ (cat_len hk ys) (hread w hst) (cat_one h1 ys)
    obtain ⟨a', c', hv⟩ := hb.shape
    have hcv : clipV v = .slice a' xs.length xs.length := by rw [hv]; rfl
    have hold : (Builtin.firstCells i0.size xs.length (.slice a' xs.length xs.length)).run P w.drew = .ok (cat enc xs).toArray w.drew := by
      by_cases hx0 : xs = []
      · subst hx0
        rcases hb with ⟨⟨a1, h5⟩, _⟩ | ⟨b, off, cap, h5, _, _⟩
        · rw [h5] at hv
          cases hv
          rcases a' with _ | ad1
          · exact (Go.Src.ofNil (size := i0.size) w hT 0).cellsD
          · exact (Go.Src.ofSlice (size := i0.size) w hT ad1 0 0 [] (by simp) (by simp) (by simp)).cellsD
        · rw [h5] at hv
          cases hv
          exact (Go.Src.ofSlice (size := i0.size) w hT ⟨b, off, none⟩ 0 0 [] (by simp) (by simp) (by simp)).cellsD
      · obtain ⟨ad2, c2, h6, hread2⟩ := hbc.src (C := C) hk hs0 hx0 hb0
        rw [hcv] at h6
        cases h6
        exact (Go.Src.ofSlice (size := i0.size) w hT ad2 xs.length xs.length _ (cat_len hk xs) (hread2 w hst) (cat_one h1 xs)).cellsD
    have hpos : 0 < ys.length := List.length_pos_iff.2 hy
    have hrun := run_append_grow_src (P := P) w sT sT ty el i0 z hT hi0 hz0 a' xs.length xs.length (cat enc xs) hold (.slice (some ad) ys.length c) ys.length (cat enc ys) hsrc (by omega) (by omega) (growslice_fits (by omega) (by rw [hz2]; exact hbytes))
    have hge := grownCap_ge w (xs.length + ys.length) xs.length el
    generalize grownCap w (xs.length + ys.length) xs.length el = gc at hrun hge
    rw [run_append_op ((hr.eval hs).trans hcv) (hr.eval hx) hrun]
    have hs' : St C.w0 C.X (M ++ L) w.drew := ⟨hst.fr.drew, hst.hp.drew⟩
    have hcells : ((cat enc xs ++ cat enc ys).toArray ++ Builtin.zeroCells z.cells (gc - (xs.length + ys.length))) = (cat enc (xs ++ ys) ++ (Builtin.zeroCells z.cells (gc - (xs.length + ys.length))).toList).toArray := by
      rw [cat_append]
      apply Array.toList_inj.1
      simp
    rw [hcells]
    have hn := hs'.new (.cells (cat enc (xs ++ ys) ++ (Builtin.zeroCells z.cells (gc - (xs.length + ys.length))).toList).toArray el (0, 0))
    have hrx : Rdx i0.size enc [(w.heap.size, .cells (cat enc (xs ++ ys) ++ (Builtin.zeroCells z.cells (gc - (xs.length + ys.length))).toList).toArray el (0, 0))] (.slice (some ⟨w.heap.size, 0, none⟩) (xs.length + ys.length) gc) (xs ++ ys) := Rdx.blk (i := 0) hk rfl (by simp) (by simpa using hge)
    exact ⟨hn.hp.sub (List.sublist_append_right (_ :: M) L), h _ [(w.heap.size, _)] (hrx.mono fun w h => h.sub (List.sublist_append_left _ _)) (by intro e he; obtain rfl := List.mem_singleton.1 he; exact .inl hst.fr.size) _ _ (hr.put (by simpa using hd) _) hn⟩
end te
theorem tmod_nat (a b : Nat) : ((a : Int).tmod (b : Int)) = ((a % b : Nat) : Int) := by rw [Int.tmod_eq_emod_of_nonneg (by omega)]; simp
section te2
variable {P : Program} {rd : Option Nat} {ops : Array Oper} {p : Pst} {q : List Nat} {C : Ctx} {E : Env} {M L : Mem} {k : Nat} {tr : Tr} {ty : TypeId} {ps : String} {af : Array Edge}
/-- copy out of what can be read, as much as there is room for, into a block. -/
theorem TE_copyM {α : Type} {enc : α → List Value} {x y : Operand} {dT sT el : TypeId} {by' : Nat} {z xv : Value} {b o dLen dCap : Nat} {t : TypeId} {H0 : Mem} {d : Nat} {g : Option (Nat × Bool)} (i : Nat) (m : Nat) (ys : List α) (cur cur' : Array Value) (M' : Mem) (ho : ops[k]? = some ⟨some d, .call ⟨.builtin .copy, #[x, y], #[dT, sT]⟩, ty, ps, af, g⟩) (hl : ld ops q k = true) (hg : GOK ops E g) (hd : Nat.blt d C.N = true)
    (hT : P.underlying dT = some (.slice el)) (hz : ∀ w, (sizeOf el).run P w = .ok 1 w) (hI : ElI P el 1 by' z) (hk : ∀ x, (enc x).length = 1) (h1 : ∀ x, ∀ v ∈ enc x, v.oneCell' = true) (hx : evalE E x = some (.slice (some ⟨b, o, none⟩) dLen dCap)) (hy : evalE E y = some xv)
    (hb : Rdx 1 enc H0 xv ys) (hm : ∀ w, Hp (M ++ L) w → Hp H0 w) (hn : m = min ys.length dLen) (hi : M[i]? = some (b, .cells cur t (0, 0))) (hfit : o + m ≤ cur.size) (hw : C.w0.heap.size ≤ b ∨ b ∈ C.X)
    (hc : putL cur o (cat enc (ys.take m)) = cur') (hM : M.set i (b, .cells cur' t (0, 0)) = M') (h : TE P rd ops p q C L tr ((d, .int .i64 m) :: E) M') : TE P rd ops p q C L (.op k tr) E M := by
  subst hc; subst hM
  have hmle : m ≤ ys.length := by omega
  have hlen : (cat enc (ys.take m)).length = m := by rw [cat_len hk, Nat.mul_one, List.length_take, Nat.min_eq_left hmle]
  rcases hb with ⟨⟨a0, rfl⟩, rfl⟩ | ⟨b', off, cap, rfl, hcap, hcell⟩
  · obtain rfl : m = 0 := by simpa using hmle
    rw [show putL cur o (cat enc (([] : List α).take 0)) = cur from rfl, set_same hi] at h
    exact TE_l ho hl hg rfl (RD.copyNil hT hz hx hy) hd h
  · refine TE_copy ho hl hg hd hT hI hx hy (cs := cat enc (ys.take m)) (by rw [hlen]; exact hn) (fun w hw j u hj => ?_) hi (by rw [hlen]; exact hfit) (cat_one h1 _) hw (by rw [hlen]; exact h)
    obtain ⟨a, ha, hu, _⟩ := cat_out hk (by omega) hj
    rw [Nat.div_one] at ha; rw [Nat.mod_one] at hu
    have ha' : ys[j]? = some a := by
      rw [List.getElem?_take] at ha
      split at ha
      · exact ha
      · cases ha
    have := hcell w (hm w hw) j a ha' 0 u hu
    rw [add_none]; simpa using this
end te2
section rd2
variable {P : Program} {ty : TypeId} {E : Env} {L : Mem} {v u : Value} {x y z : Operand} {T U : TypeId}
theorem RD.sliceAL {b off n sz : Nat} {el : TypeId} {lo : Operand} {k : IntKind} {l : Nat} {zi : Int} (hT : ∀ w, (underlying T).run P w = .ok (.array n el) w) (hz : ∀ w, (sizeOf el).run P w = .ok sz w) (hx : evalE E x = some (.pointer (some ⟨b, off, none⟩)))
    (hlo : evalE E lo = some (.int k zi)) (hzi : zi = (l : Int)) (h1 : l < n) :
    RD P (.slice T x (some lo) none none) ty E L (.slice (some ⟨b, off + l * sz, none⟩) (n - l) (n - l)) := fun ρ w _ _ _ _ hρ _ => by
  subst hzi
  have h3 : l ≤ n := by omega
  have h4 : ¬ (n = l) := by omega
  simp [execOp, Instr.sliceAt, Instr.sureAddr, Instr.sliceBounds, Instr.sliceBound, asIntOf, hT, hz, hρ _ _ hx, hρ _ _ hlo, Addr.add, h3, h4]
end rd2
end Go.Mv
