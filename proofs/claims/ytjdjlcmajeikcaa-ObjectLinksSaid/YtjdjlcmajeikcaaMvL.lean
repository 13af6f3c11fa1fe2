import Derived.Test.YtjdjlcmajeikcaaMvK
import Derived.Lib.IndexAny
namespace Go.Mv
open Go
def byteC (c : UInt8) : List Value := [bcell c]
theorem byteC_len (c : UInt8) : (byteC c).length = 1 := rfl
theorem byteC_one (c : UInt8) : ∀ v ∈ byteC c, v.oneCell' = true := by
  intro v hv
  simp only [byteC, List.mem_cons, List.not_mem_nil, or_false] at hv
  subst hv; rfl
theorem Rdx.of_b {H : Mem} {v : Value} {ys : List UInt8} (h : Rdb H v ys) : Rdx 1 byteC H v ys := by
  rcases h with h | ⟨b, off, cap, h1, h2, h3⟩
  · exact .inl h
  · refine .inr ⟨b, off, cap, h1, h2, fun w hw i x hx j u hu => ?_⟩
    have hj : j = 0 := by have := (List.getElem?_eq_some_iff.1 hu).1; rw [byteC_len] at this; omega
    subst hj
    have hu' : bcell x = u := by simpa [byteC] using hu
    rw [Nat.mul_one, Nat.add_zero]
    exact h3 w hw i u (by simp [bcells, hx, hu'])
theorem Rdb.of_x {H : Mem} {v : Value} {ys : List UInt8} (h : Rdx 1 byteC H v ys) : Rdb H v ys := by
  rcases h with h | ⟨b, off, cap, h1, h2, h3⟩
  · exact .inl h
  · refine .inr ⟨b, off, cap, h1, h2, fun w hw j u hu => ?_⟩
    obtain ⟨x, hx, rfl⟩ : ∃ x, ys[j]? = some x ∧ bcell x = u := by simpa [bcells] using hu
    have := h3 w hw j x hx 0 (bcell x) rfl
    rwa [Nat.mul_one, Nat.add_zero] at this
def toB (z : Int) : UInt8 := UInt8.ofNat z.toNat
theorem bcell_toB {z : Int} (h0 : 0 ≤ z) (h1 : z < 256) : Value.int .u8 z = bcell (toB z) := bcell_of (by omega) (by omega)
theorem u8_rng (z : Int) : 0 ≤ IntKind.u8.wrap z ∧ IntKind.u8.wrap z < 256 := by
  have h1 := Int.emod_nonneg z (show (256 : Int) ≠ 0 by decide)
  have h2 := Int.emod_lt_of_pos z (show (0 : Int) < 256 by decide)
  have h : IntKind.u8.wrap z = z % 256 := by simp [IntKind.wrap, IntKind.signed, IntKind.bits]
  rw [h]; exact ⟨h1, h2⟩
theorem byte_put {c : UInt8} {z : Int} (h0 : 0 ≤ z) (h1 : z < 256) : byteC (toB z) = (putL (byteC c).toArray 0 (Value.int .u8 z).cells.toList).toList := by
  rw [bcell_toB h0 h1]; rfl
section rd
variable {P : Program} {ty : TypeId} {E : Env} {L : Mem} {x : Operand} {v : Value} {T : TypeId}
theorem RD.mkIface {d0 : TypeDesc} (hu : P.underlying T = some d0) (hd : ∀ m, d0 ≠ .interface m) (hx : evalE E x = some v) : RD P (.makeInterface T x) ty E L (.iface T v) := fun ρ w _ _ _ _ hρ _ => by
  simp only [execOp, hρ _ _ hx, Instr.makeInterface, Sem.run_bind, run_underlying hu, Result.andThen_ok]
  cases d0 with
  | interface m => exact absurd rfl (hd m)
  | _ => rfl
theorem RD.str_of_rune {U : TypeId} {k : IntKind} {n : Int} {dS : TypeDesc} (hS : ∀ w, (underlying T).run P w = .ok dS w) (hU : ∀ w, (underlying U).run P w = .ok .string w) (hx : evalE E x = some (.int k n)) :
    RD P (.convert T U x) ty E L (.string (Utf8.encode n)) := fun ρ w _ _ _ _ hρ _ => by
  simp [execOp, hρ _ _ hx, convert, hS, hU, Conv.intToString]
end rd
theorem lt_data {s : ByteArray} {i : Nat} (h : i < s.size) : i < s.data.toList.length := by simpa using h
theorem get!_data {s : ByteArray} {i : Nat} (h : i < s.size) : s.get! i = gt s.data.toList i := by
  have h' : i < s.data.toList.length := lt_data h
  have e1 : s.get! i = s.data[i]! := rfl
  have h2 : i < s.data.size := h
  rw [e1, getElem!_pos s.data i h2]
  have := gt_some h'
  rw [List.getElem?_eq_getElem h'] at this
  simpa using (Option.some.inj this)
def sepB (c : UInt8) : Bool := c == 47 || c == 0
def hasSep (s : ByteArray) : Bool := s.data.toList.any sepB
theorem decode_step {s : ByteArray} {pos : Nat} (h : pos < s.size) : 1 ≤ (Utf8.decode s pos).2 ∧ pos + (Utf8.decode s pos).2 ≤ s.size := by
  simp only [Utf8.decode]
  repeat' split
  all_goals first | (simp_all; omega) | (simp only [Bool.and_eq_true, decide_eq_true_eq] at *; omega)
theorem decode_span {s : ByteArray} {pos : Nat} (h : pos < s.size) (ha : ¬ (s.get! pos).toNat < 128) : 128 ≤ (Utf8.decode s pos).1 ∧ ∀ j, pos ≤ j → j < pos + (Utf8.decode s pos).2 → 128 ≤ (s.get! j).toNat := by
  have e0 : s.get! (pos + 0) = s.get! pos := rfl
  simp only [Utf8.decode, e0, ha, if_false]
  have one : ∀ j, pos ≤ j → j < pos + 1 → 128 ≤ (s.get! j).toNat := fun j h1 h2 => by
    obtain rfl : j = pos := by omega
    omega
  have co : ∀ k, ((s.get! (pos + k)).toNat / 64 == 2) = true → 128 ≤ (s.get! (pos + k)).toNat := fun k hk => by
    have := eq_of_beq hk; omega
  split
  · rename_i h1
    simp only [Bool.and_eq_true] at h1
    have c1 := co 1 h1.2.2
    split
    · exact ⟨by assumption, fun j h2 h3 => by
        have : j = pos ∨ j = pos + 1 := by simp only at h3; omega
        rcases this with rfl | rfl
        · omega
        · exact c1⟩
    · exact ⟨by decide, one⟩
  · split
    · rename_i h1
      simp only [Bool.and_eq_true] at h1
      have c1 := co 1 h1.1.2.2
      have c2 := co 2 h1.2.2
      split
      · rename_i h4
        simp only [Bool.and_eq_true, decide_eq_true_eq, ge_iff_le] at h4
        exact ⟨by simp only; omega, fun j h2 h3 => by
          have : j = pos ∨ j = pos + 1 ∨ j = pos + 2 := by simp only at h3; omega
          rcases this with rfl | rfl | rfl
          · omega
          · exact c1
          · exact c2⟩
      · exact ⟨by decide, one⟩
    · split
      · rename_i h1
        simp only [Bool.and_eq_true] at h1
        have c1 := co 1 h1.1.1.2.2
        have c2 := co 2 h1.1.2.2
        have c3 := co 3 h1.2.2
        split
        · rename_i h4
          simp only [Bool.and_eq_true, decide_eq_true_eq, ge_iff_le] at h4
          exact ⟨by simp only; omega, fun j h2 h3 => by
            have : j = pos ∨ j = pos + 1 ∨ j = pos + 2 ∨ j = pos + 3 := by simp only at h3; omega
            rcases this with rfl | rfl | rfl | rfl
            · omega
            · exact c1
            · exact c2
            · exact c3⟩
        · exact ⟨by decide, one⟩
      · exact ⟨by decide, one⟩
theorem sepB_big {c : UInt8} (h : 128 ≤ c.toNat) : sepB c = false := by
  have h1 : c ≠ 47 := fun e => by subst e; revert h; decide
  have h2 : c ≠ 0 := fun e => by subst e; revert h; decide
  simp [sepB, h1, h2]
theorem sepB_iff {c : UInt8} : sepB c = true ↔ (c.toNat : Int) = 47 ∨ (c.toNat : Int) = 0 := by
  have h1 : (c = 47) ↔ (c.toNat : Int) = 47 := by rw [UInt8.toNat_inj.symm]; show c.toNat = 47 ↔ _; omega
  have h2 : (c = 0) ↔ (c.toNat : Int) = 0 := by rw [UInt8.toNat_inj.symm]; show c.toNat = 0 ↔ _; omega
  rw [← h1, ← h2]
  simp [sepB]
theorem sepB_nat {c : UInt8} : sepB c = decide ((c.toNat : Int) = 47 ∨ (c.toNat : Int) = 0) := by
  rw [Bool.eq_iff_iff, sepB_iff]; simp
/-- No separator among the first. -/
def NoSep (s : ByteArray) (pos : Nat) : Prop := ∀ j, j < pos → sepB (s.get! j) = false
theorem NoSep.step {s : ByteArray} {pos : Nat} {z : Int} (h : NoSep s pos) (hp : pos < s.size) (hz : decide (0 ≤ z) = decide (((Utf8.decode s pos).1 : Int) = 47 ∨ ((Utf8.decode s pos).1 : Int) = 0)) (hn : ¬ 0 ≤ z) : NoSep s (pos + (Utf8.decode s pos).2) := fun j hj => by
  rcases Nat.lt_or_ge j pos with h1 | h1
  · exact h j h1
  by_cases ha : (s.get! pos).toNat < 128
  · have hd : Utf8.decode s pos = ((s.get! pos).toNat, 1) := by
      have e0 : s.get! (pos + 0) = s.get! pos := rfl
      simp only [Utf8.decode, e0, ha, if_true]
    rw [hd] at hj hz
    simp only at hj
    obtain rfl : j = pos := by omega
    rw [sepB_nat, ← hz]
    simpa using hn
  · exact sepB_big ((decode_span hp ha).2 j h1 hj)
theorem NoSep.none {s : ByteArray} {pos : Nat} (h : NoSep s pos) (hp : s.size ≤ pos) : hasSep s = false := by
  unfold hasSep
  refine List.any_eq_false.2 fun c hc => ?_
  obtain ⟨i, hi, rfl⟩ := List.getElem_of_mem hc
  have hi' : i < s.size := by simpa using hi
  have := h i (by omega)
  rw [get!_data hi'] at this
  have e := gt_some (l := s.data.toList) hi
  rw [List.getElem?_eq_getElem hi] at e
  rw [Option.some.inj e, this]; simp
theorem NoSep.hit {s : ByteArray} {pos : Nat} {z : Int} (hp : pos < s.size) (hz : decide (0 ≤ z) = decide (((Utf8.decode s pos).1 : Int) = 47 ∨ ((Utf8.decode s pos).1 : Int) = 0)) (hn : 0 ≤ z) : hasSep s = true := by
  have hr := of_decide_eq_true (hz.symm.trans (decide_eq_true hn))
  by_cases ha : (s.get! pos).toNat < 128
  · have hd : Utf8.decode s pos = ((s.get! pos).toNat, 1) := by
      have e0 : s.get! (pos + 0) = s.get! pos := rfl
      simp only [Utf8.decode, e0, ha, if_true]
    rw [hd] at hr
    have hs : sepB (s.get! pos) = true := by rw [sepB_nat]; exact decide_eq_true hr
    unfold hasSep
    rw [get!_data hp] at hs
    exact List.any_eq_true.2 ⟨_, gt_mem (lt_data hp), hs⟩
  · have := (decode_span hp ha).1
    omega
theorem enc_big {r : Int} (h : 128 ≤ r) : 2 ≤ (Utf8.encode r).size ∧ (Utf8.encode r).size ≤ 4 ∧ ((Utf8.encode r).size = 2 → 128 ≤ (gt (Utf8.encode r).data.toList 1).toNat) := by
  have hc : 128 ≤ (if Utf8.valid r then r.toNat else Utf8.runeError) := by
    split
    · omega
    · decide
  simp only [Utf8.encode]
  generalize (if Utf8.valid r then r.toNat else Utf8.runeError) = c at hc
  rw [if_neg (by omega)]
  split
  · refine ⟨Nat.le_refl _, Nat.le_of_ble_eq_true rfl, fun _ => ?_⟩
    show 128 ≤ (UInt8.ofNat (128 + c % 64)).toNat
    rw [UInt8.toNat_ofNat_of_lt' (by show 128 + c % 64 < 256; omega)]
    omega
  · split
    · exact ⟨Nat.le_of_ble_eq_true rfl, Nat.le_of_ble_eq_true rfl, fun h => absurd (show (3 : Nat) = 2 from h) (by decide)⟩
    · exact ⟨Nat.le_of_ble_eq_true rfl, Nat.le_of_ble_eq_true rfl, fun h => absurd (show (4 : Nat) = 2 from h) (by decide)⟩
theorem indexAny_sep (s : ByteArray) : decide (0 ≤ Lib.indexAny s.data.toList [47, 0]) = hasSep s := by
  unfold hasSep
  induction s.data.toList with
  | nil => rfl
  | cons b l ih =>
    have hge := Lib.indexAny_ge [47, 0] l
    have e : ([47, 0] : List UInt8).contains b = sepB b := by rw [Bool.eq_iff_iff]; simp [sepB]
    rw [Lib.indexAny, e, List.any_cons]
    cases sepB b with
    | true => rfl
    | false =>
      rw [Bool.false_or, ← ih]
      simp only [Bool.false_eq_true, if_false]
      split
      · rename_i h; rw [eq_of_beq h]
      · rename_i h
        have h' : Lib.indexAny l [47, 0] ≠ -1 := by simpa using h
        exact decide_eq_decide.2 (by omega)
theorem Ret.new2 {P : Program} {f : FuncId} {args : Array Value} {w : World} {v : Value} {o1 o2 : Obj} (h : Calls P f args w fun e w' => e = .returned v ∧ w' = (w.alloc o1).alloc o2) : Calls P f args w (Ret w [] fun x H1 => x = v ∧ H1 = []) :=
  h.mono (by rintro e w' ⟨rfl, rfl⟩; exact ⟨v, [], rfl, ⟨rfl, rfl⟩, ((Fr.refl w []).alloc o1).alloc o2, Hp.nil _, by simp⟩)
end Go.Mv
