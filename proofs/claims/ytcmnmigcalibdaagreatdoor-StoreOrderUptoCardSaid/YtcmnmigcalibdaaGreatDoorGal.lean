import Derived.Test.YtcmnmigcalibdaaGreatDoorGak
import Derived.Test.YtcmnmigcalibdaaGreatDoorShq
import Derived.Test.YtcmnmigcalibdaaGreatDoorProg
namespace Go.Proofs.YtcmnmigcalibdaaGreatDoor
open Go.Proofs.Tryz
open Go Go.Mv
set_option maxRecDepth 8000
theorem sep_dec : ∀ pos, pos < 2 → (Utf8.decode ⟨#[47, 0]⟩ pos).1 ≠ 65533 := by decide

theorem sep_idx (c : UInt8) : Lib.indexByte ((⟨#[47, 0]⟩ : ByteArray).extract 2 (⟨#[47, 0]⟩ : ByteArray).size).data.toList c = -1 := rfl

theorem c_runeBig (r : Int) (w : World) (hr : 128 ≤ r) (hH : Hp [] w) : Calls Tryz.prog 310 #[.string ⟨#[47, 0]⟩, .int .i32 r] w (Ret w [] fun v H1 => v = .int .i64 (-1) ∧ H1 = []) := by
 have ⟨henc, henc4, henc2⟩ := enc_big hr
 refine fn_enter (args := [_, _]) func310 rfl ntmps310 rfl hH (sq (pl (qa rfl (n0 (pn_block (sq (pl (qm rfl (qq rfl (RD.leq rfl rfl) ?_)))))))))
 refine qm rfl (TE_join (σ := Unit) (fun _ => [(0, .string ⟨#[47, 0]⟩), (1, .int .i32 r), (160, .bool ((decide (0 ≤ r)) && (decide (r < 128))))]) (fun _ => []) (fun _ => True) ?_ ?_)
 ·refine TE_dec (fun hf1 => ?_) (fun hf1 => ?_)
  ·exact qg rfl (TE_gq rfl rfl rfl rfl (RD.lss rfl rfl) rfl (qT rfl (qa rfl (n0 (pn_give () trivial ⟨rfl, rfl, congrArg (fun b => some (Value.bool b)) (by first | (simp [hf1]; done) | (simp only [decide_eq_true hf1]; rfl) | (simp only [decide_eq_true hf1]; simp; done)), trivial⟩ sb)))))
  ·exact qs rfl (qs rfl (qF rfl (qa rfl (n0 (pn_give () trivial ⟨rfl, rfl, congrArg (fun b => some (Value.bool b)) (by first | (simp [hf1]; done) | (simp only [decide_eq_false hf1]; rfl) | (simp only [decide_eq_false hf1]; simp; done)), trivial⟩ sb)))))
 rintro _ -
 refine pn_cond rfl (fun hc2 => ?_) (fun hc2 => ?_)
 ·exfalso
  simp only [Bool.and_eq_true, decide_eq_true_eq] at hc2; omega
 ·simp only [Bool.and_eq_false_iff, decide_eq_false_iff_not] at hc2
  refine sq (pl (qm rfl (qq rfl (RD.eql rfl rfl) (qa rfl (n0 (pn_condD rfl (fun hc3 => ?_) (fun hc3 => ?_)))))))
  ·refine sq (sq (pl (qm rfl (TE_rangeS rfl runUnderlying9 rfl trivial rfl fun b175 hb175 => (n0 (pn_block (lpS (σ := Nat) (fun q => [(175, .pointer (some ⟨b175, 0, none⟩))]) (fun q => [(b175, .stringIter ⟨#[47, 0]⟩ q)]) (fun q => True) (fun q => 2 - q) 0 trivial ⟨rfl, trivial⟩ ?_)))))))
   rintro pos -
   refine sq (pl ?_)
   refine (if hn4 : pos < (⟨#[47, 0]⟩ : ByteArray).size then ?_ else ?_)
   ·have ⟨hw5, hw6⟩ := decode_step hn4; refine TE_nextS (i := 0) rfl rfl trivial rfl rfl hn4 (.inl hb175) ?_
    refine qe rfl (n0 (sq (pn_condT rfl (sk (pn_block (sq (pl (qe rfl (qe rfl ?_)))))))))
    refine qa rfl (qa rfl (n0 (sq (pl (qm rfl (qq rfl (RD.eql rfl rfl) (n0 (pn_condD rfl (fun hc7 => ?_) (fun hc7 => ?_)))))))))
    ·exfalso
     have := sep_dec pos (by assumption); omega
    ·exact sk (agS (pos + (Utf8.decode (⟨#[47, 0]⟩ : ByteArray) pos).2) trivial (by have h9 : (⟨#[47, 0]⟩ : ByteArray).size = 2 := rfl; omega) ⟨rfl, trivial⟩)
   ·refine TE_nextE (i := 0) rfl rfl trivial rfl rfl hn4 (qe rfl (n0 (sq (pn_condF rfl (xt (sq (plG [] [] (qa rfl (n0 ?_)))))))))
    exact rt (pn_doneS [] rfl rfl ⟨rfl, rfl⟩ (fun _ => Nat.zero_le _) (fun _ he => nomatch he))
  ·refine sq (pl (qm rfl (cG rfl call315 (fun w hw => Ret.same (Tryz.utf8_ValidRune r w)) ?_)))
   rintro v8 H9 ⟨rfl, rfl⟩ -
   refine qq rfl (RD.not rfl) (qa rfl (n0 (pn_cond rfl (fun hc10 => ?_) (fun hc10 => ?_))))
   ·simp only [Bool.not_eq_true'] at hc10
    exact sq (pl (qa rfl (n0 (rt (pn_doneS [] rfl rfl ⟨rfl, rfl⟩ (fun _ => Nat.zero_le _) (fun _ he => nomatch he))))))
   ·simp only [Bool.not_eq_false'] at hc10
    refine pn_scope (sq (pl (qm rfl (ql rfl (RD.str_of_rune runUnderlying21 runUnderlying9 rfl) (qa rfl (n0 (sq (pn_plain [1] rfl (qm rfl ?_)))))))))
    refine qq rfl (RD.len_string runUnderlying9 rfl) (qq rfl (RD.subI rfl rfl (by omega) (by omega)) (qa rfl (n0 (sq (pl (qm rfl (qa rfl (n0 (sq ?_)))))))))
    refine pl (qa rfl (n0 (sq (pn_block (lpS (σ := Unit) (fun q => [(0, .string ⟨#[47, 0]⟩), (7, .string (Utf8.encode r)), (8, .int .i64 (((Utf8.encode r).size : Int) - 1)), (9, .int .i64 (((Utf8.encode r).size : Int) - 1)), (10, .int .i64 0)]) (fun q => []) (fun q => True) (fun q => 0) () trivial ⟨rfl, rfl, rfl, rfl, rfl, trivial⟩ ?_)))))
    rintro _ -
    refine sq (sq (pn_plain [2] rfl (qm rfl (qm rfl (qq rfl (RD.as (v := .int .i64 2) (RD.len_string runUnderlying9 rfl) rfl) (qq rfl (RD.lss rfl rfl) (n0 (pn_condD rfl (fun hc11 => ?_) (fun hc11 => ?_)))))))))
    ·refine sk (pn_block (pn_scope (sq (sq (dG [] [] [] (qm rfl (qm rfl (qq rfl (RD.indexStr (i := 1) underlying9 rfl rfl (by omega) (gt_some (lt_data (by first | omega | exact Nat.le_of_ble_eq_true rfl)))) (qm rfl ?_)))))))))
     refine qm rfl (qq rfl (RD.indexStr (i := 1) underlying9 rfl rfl (by omega) (gt_some (lt_data (by first | omega | exact Nat.le_of_ble_eq_true rfl)))) (qq rfl (RD.neq rfl rfl) (TE_nil (pn_condN rfl (fun hc12 => ?_) (fun hc12 => ?_)))))
     ·refine sq (dG [] [] [] (qm rfl (qm rfl (qq rfl (RD.addI rfl rfl (by omega) (by omega)) (qq rfl (RD.sliceStr (l := 2) (h := (⟨#[47, 0]⟩ : ByteArray).size) underlying9 rfl ⟨_, congrArg (fun z => some (Value.int .i64 z)) (show ((Utf8.encode r).size : Int) - 1 + 1 = ((2 : Nat) : Int) by omega)⟩ rfl (Nat.le_refl _) (Nat.le_refl _)) (qm rfl (qm rfl (qq rfl (RD.indexStr (i := 1) underlying9 rfl rfl (by omega) (gt_some (lt_data (by first | omega | exact Nat.le_of_ble_eq_true rfl)))) (cG rfl call314 (fun w hw => Ret.same (Tryz.strings_IndexByte ((⟨#[47, 0]⟩ : ByteArray).extract 2 (⟨#[47, 0]⟩ : ByteArray).size) ((gt (Utf8.encode r).data.toList 1).toNat : Int) w)) ?_)))))))))
      rintro v13 H14 ⟨rfl, rfl⟩ -
      refine qa rfl (TE_nil (sq (sq (plG [] [] (qm rfl (qq rfl (RD.lss rfl rfl) (n0 (pn_condD rfl (fun hc15 => ?_) (fun hc15 => ?_)))))))))
      ·exact sq (pl (qa rfl (n0 (rt (pn_doneS [] rfl rfl ⟨rfl, rfl⟩ (fun _ => Nat.zero_le _) (fun _ he => nomatch he))))))
      ·exfalso
       exact hc15 (by rw [sep_idx]; decide)
     ·exfalso
      have h9 := henc2 (by omega); have h8 : (gt ((⟨#[47, 0]⟩ : ByteArray).data.toList) 1) = 0 := rfl; rw [h8] at hc12; have h7 : (0 : UInt8).toNat = 0 := rfl; omega
    ·exact xt (sq (sq (pl (qa rfl (n0 (rt (pn_doneS [] rfl rfl ⟨rfl, rfl⟩ (fun _ => Nat.zero_le _) (fun _ he => nomatch he))))))))
theorem sep_key : ∀ n : Nat, n < 128 → decide (0 ≤ Lib.indexByte (⟨#[47, 0]⟩ : ByteArray).data.toList ((n : Int).toNat.toUInt8)) = decide ((n : Int) = 47 ∨ (n : Int) = 0) := by decide
theorem c_runeSep (r : Nat) (w : World) : Calls Tryz.prog 310 #[.string ⟨#[47, 0]⟩, .int .i32 (r : Int)] w (Ret w [] fun v H1 => ∃ z, v = .int .i64 z ∧ decide (0 ≤ z) = decide ((r : Int) = 47 ∨ (r : Int) = 0) ∧ H1 = []) := by
  by_cases h : r < 128
  · refine (Ret.same (Tryz.strings_IndexRune_ascii ⟨#[47, 0]⟩ r w (by omega) (by omega))).mono ?_
    rintro e w' ⟨v, H1, rfl, ⟨rfl, rfl⟩, h3⟩
    exact ⟨_, _, rfl, ⟨_, rfl, sep_key r h, rfl⟩, h3⟩
  · refine (c_runeBig (r : Int) w (by omega) (Hp.nil _)).mono ?_
    rintro e w' ⟨v, H1, rfl, ⟨rfl, rfl⟩, h3⟩
    exact ⟨_, _, rfl, ⟨_, rfl, by rw [decide_eq_false (by omega), decide_eq_false (by omega)], rfl⟩, h3⟩

theorem c_idxShort (s : ByteArray) (w : World) (hs : s.size ≤ 8) (hH : Hp [] w) : Calls Tryz.prog 309 #[.string s, .string ⟨#[47, 0]⟩] w (Ret w [] fun v H1 => ∃ z, v = .int .i64 z ∧ decide (0 ≤ z) = hasSep s ∧ H1 = []) := by
 refine fn_enter (args := [_, _]) func309 rfl ntmps309 rfl hH (sq (pl (qa rfl (n0 (sq (sq (pl (qm rfl (qq rfl (RD.as (v := .bool false) (RD.eql_string rfl rfl) (congrArg Value.bool (by decide))) ?_)))))))))
 refine n0 (pn_condF rfl (sk (sq (sq (pn_plain [1] rfl (qm rfl (qq rfl (RD.as (v := .int .i64 2) (RD.len_string runUnderlying9 rfl) rfl) (qq rfl (RD.as (v := .bool false) (RD.eql rfl rfl) rfl) (n0 ?_)))))))))
 refine pn_condF rfl (sk (sq (sq (pn_plain [1] rfl (qm rfl (qq rfl (RD.len_string runUnderlying9 rfl) (cG rfl call311 (fun w hw => Ret.same (Tryz.strings_shouldUseASCIISet (s.size : Int) w)) ?_)))))))
 rintro v1 H2 ⟨rfl, rfl⟩ -
 refine n0 (pn_condD rfl (fun hc3 => ?_) (fun hc3 => ?_))
 ·exfalso
  omega
 ·refine sk (sq (sq (pl (qm rfl (TE_rangeS rfl runUnderlying9 rfl trivial rfl fun b45 hb45 => (n0 (pn_block (lpS (σ := Nat) (fun q => [(1, .string ⟨#[47, 0]⟩), (45, .pointer (some ⟨b45, 0, none⟩))]) (fun q => [(b45, .stringIter s q)]) (fun q => (NoSep s q)) (fun q => s.size - q) 0 (fun j hj => absurd hj (Nat.not_lt_zero _)) ⟨rfl, rfl, trivial⟩ ?_))))))))
  rintro pos hns
  refine sq (pl ?_)
  refine (if hn4 : pos < s.size then ?_ else ?_)
  ·have ⟨hw5, hw6⟩ := decode_step hn4; refine TE_nextS (i := 0) rfl rfl trivial rfl rfl hn4 (.inl hb45) ?_
   refine qe rfl (n0 (sq (pn_condT rfl (sk (pn_block (sq (pl (qe rfl (qe rfl ?_)))))))))
   refine qa rfl (qa rfl (n0 (sq (pl (qm rfl (qm rfl (cG rfl call310 (fun w hw => c_runeSep ((Utf8.decode s pos).1) w) ?_)))))))
   rintro v9 H10 ⟨z7, rfl, hz8, rfl⟩ -
   refine qq rfl (RD.geq rfl rfl) (n0 (pn_condD rfl (fun hc11 => ?_) (fun hc11 => ?_)))
   ·exact sq (plG [] [] (qm rfl (qa rfl (n0 (rt (pn_doneS [] rfl rfl ⟨_, rfl, (by rw [NoSep.hit (by assumption) hz8 (by assumption)]; exact decide_eq_true (by omega)), rfl⟩ (fun _ => Nat.zero_le _) (fun _ he => nomatch he)))))))
   ·exact sk (agS (pos + (Utf8.decode s pos).2) (hns.step (by assumption) hz8 (by assumption)) (by omega) ⟨rfl, rfl, trivial⟩)
  ·refine TE_nextE (i := 0) rfl rfl trivial rfl rfl hn4 (qe rfl (n0 (sq (pn_condF rfl (xt (sq (plG [] [] (qa rfl (n0 ?_)))))))))
   exact rt (pn_doneS [] rfl rfl ⟨_, rfl, (by rw [NoSep.none hns (by omega)]; rfl), rfl⟩ (fun _ => Nat.zero_le _) (fun _ he => nomatch he))
theorem c_idxSep (s : ByteArray) (w : World) (hs : s.size ≤ 1000000) : Calls Tryz.prog 309 #[.string s, .string ⟨#[47, 0]⟩] w (Ret w [] fun v H1 => ∃ z, v = .int .i64 z ∧ decide (0 ≤ z) = hasSep s ∧ H1 = []) := by
  by_cases h : s.size ≤ 8
  · exact c_idxShort s w h (Hp.nil _)
  · refine (Ret.new2 (Tryz.strings_IndexAny_long zeroValue379 s ⟨#[47, 0]⟩ w (Nat.le_of_ble_eq_true rfl) (by omega) (by omega) (Nat.lt_of_lt_of_le (show 2 < 3 by decide) (by decide)) (fun j b hj => ?_))).mono ?_
    · have hl : j < 2 := (List.getElem?_eq_some_iff.1 hj).1
      have : j = 0 ∨ j = 1 := by omega
      rcases this with rfl | rfl
      · obtain rfl := Option.some.inj hj; decide
      · obtain rfl := Option.some.inj hj; decide
    · rintro e w' ⟨v, H1, rfl, ⟨rfl, rfl⟩, h3⟩
      exact ⟨_, _, rfl, ⟨_, rfl, indexAny_sep s, rfl⟩, h3⟩

theorem c_hasSep (s : ByteArray) (w : World) (hs : s.size ≤ 1000000) (hH : Hp [] w) : Calls Tryz.prog 308 #[.string s, .string ⟨#[47, 0]⟩] w (Ret w [] fun v H1 => v = .bool (hasSep s) ∧ H1 = []) := by
 refine fn_enter (args := [_, _]) func308 rfl ntmps308 rfl hH (sq (pl (qa rfl (n0 (sq (pl (qm rfl (qm rfl (cG rfl call309 (fun w hw => c_idxSep s w hs) ?_)))))))))
 rintro v3 H4 ⟨z1, rfl, hz2, rfl⟩ -
 exact qq rfl (RD.geq rfl rfl) (qa rfl (n0 (rt (pn_doneS [] rfl rfl ⟨(congrArg Value.bool hz2), rfl⟩ (fun _ => Nat.zero_le _) (fun _ he => nomatch he)))))
end Go.Proofs.YtcmnmigcalibdaaGreatDoor

namespace Go.Proofs.YtcmnmigcalibdaaGreatDoor
open Go Go.Mv
set_option maxRecDepth 8000
def sameGL {α : Type} (f : α → α → Bool) : List α → List α → Bool
  | [], [] => true
  | x :: xs, y :: ys => f x y && sameGL f xs ys
  | _, _ => false
section
variable {α : Type} {f : α → α → Bool}
theorem sameG_len : ∀ {xs ys : List α}, xs.length ≠ ys.length → sameGL f xs ys = false
  | [], [], h => absurd rfl h
  | [], _ :: _, _ => rfl
  | _ :: _, [], _ => rfl
  | x :: xs, y :: ys, h => by
    rw [sameGL, sameG_len (fun e => h (by simp [e])), Bool.and_false]
theorem sameG_F [Inhabited α] : ∀ {xs ys : List α} {i : Nat}, i < xs.length → i < ys.length → f (gt xs i) (gt ys i) = false → sameGL f xs ys = false
  | [], _, _, h, _, _ => absurd h (Nat.not_lt_zero _)
  | _ :: _, [], _, _, h, _ => absurd h (Nat.not_lt_zero _)
  | x :: xs, y :: ys, 0, _, _, h => by
    have h' : f x y = false := h
    rw [sameGL, h', Bool.false_and]
  | x :: xs, y :: ys, i + 1, h1, h2, h => by
    rw [sameGL, sameG_F (i := i) (by simpa using h1) (by simpa using h2) h, Bool.and_false]
theorem sameG_T [Inhabited α] : ∀ {xs ys : List α}, xs.length = ys.length → (∀ j, j < xs.length → f (gt xs j) (gt ys j) = true) → sameGL f xs ys = true
  | [], [], _, _ => rfl
  | [], _ :: _, h, _ => absurd h (by simp)
  | _ :: _, [], h, _ => absurd h (by simp)
  | x :: xs, y :: ys, h, ha => by
    have h0 : f x y = true := ha 0 (by simp)
    rw [sameGL, h0, Bool.true_and, sameG_T (by simpa using h) fun j hj => ha (j + 1) (by simpa using hj)]
theorem sameG_self (hf : ∀ x, f x x = true) : ∀ xs : List α, sameGL f xs xs = true
  | [] => rfl
  | x :: xs => by rw [sameGL, hf x, sameG_self hf xs]; rfl
end
theorem sameIG_eq : ∀ xs ys : List (Nat → Int), sameIL xs ys = sameGL (sameN 32) xs ys
  | [], [] => rfl
  | [], _ :: _ => rfl
  | _ :: _, [] => rfl
  | x :: xs, y :: ys => by rw [sameIL, sameGL, sameIG_eq xs ys]
theorem ba_eq {a b : List UInt8} : ((⟨a.toArray⟩ : ByteArray) = ⟨b.toArray⟩) ↔ a = b := by simp
def idZ (t : Nat → Int) : Bool := sameN 32 t fun _ => 0
structure EntOk (e : Ent) : Prop where
  n : e.name.size ≤ 5000
  id : IdOk e.id
structure ObOk (x : Ob) : Prop where
  d : x.data.length ≤ 1100
  e : x.ents.length ≤ 40
  p : x.pars.length ≤ 10
  m : x.m.size ≤ 5000
  en : ∀ e ∈ x.ents, EntOk e
  t : IdOk x.t
  g : IdOk x.tg.id
  pk : ∀ p ∈ x.pars, IdOk p
  pc : ∀ p ∈ x.pars, IdCan p
def nameB (s : ByteArray) : Bool := decide (1 ≤ s.size) && decide (s.size ≤ 64) && !hasSep s
def entAt (l : List Ent) (i : Nat) : Bool := nameB (gt l i).name && (decide ((gt l i).k = 1) || decide ((gt l i).k = 2)) && (decide (i = 0) || slt (gt l (i - 1)).name (gt l i).name)
def treeB (l : List Ent) : Bool := decide (l.length ≤ 32) && (List.range l.length).all (entAt l)
theorem tree_F2 {l : List Ent} {i : Nat} (hi : i < l.length) (h : entAt l i = false) : treeB l = false := by
  have : (List.range l.length).all (entAt l) = false := List.all_eq_false.2 ⟨i, List.mem_range.2 hi, by simp [h]⟩
  rw [treeB, this, Bool.and_false]
theorem tree_T {l : List Ent} (h : ∀ j, j < l.length → entAt l j = true) : treeB l = decide (l.length ≤ 32) := by
  have : (List.range l.length).all (entAt l) = true := List.all_eq_true.2 fun j hj => h j (List.mem_range.1 hj)
  rw [treeB, this, Bool.and_true]
/-- No two of them are the same. -/
def uniqB (l : List (Nat → Int)) : Bool := (List.range l.length).all fun i => (List.range i).all fun k => !sameN 32 (gt l i) (gt l k)
theorem uniq_T {l : List (Nat → Int)} (h : ∀ i k, i < l.length → k < i → sameN 32 (gt l i) (gt l k) = false) : uniqB l = true :=
  List.all_eq_true.2 fun i hi => List.all_eq_true.2 fun k hk => by rw [h i k (List.mem_range.1 hi) (List.mem_range.1 hk)]; rfl
theorem uniq_at {l : List (Nat → Int)} (h : uniqB l = true) {i k : Nat} (hi : i < l.length) (hk : k < i) : sameN 32 (gt l i) (gt l k) = false := by
  have := List.all_eq_true.1 (List.all_eq_true.1 h i (List.mem_range.2 hi)) k (List.mem_range.2 hk)
  simpa using this
def parsB (l : List (Nat → Int)) : Bool := decide (l.length ≤ 4) && uniqB l
def mayB (x : Ob) : Bool := if x.k = 1 then decide (x.data.length ≤ 1024) else if x.k = 2 then treeB x.ents else if x.k = 3 then parsB x.pars && decide (x.m.size ≤ 200) else if x.k = 4 then (decide (1 ≤ x.tg.k) && decide (x.tg.k ≤ 4)) && decide (x.m.size ≤ 200) else false
def zId : Nat → Int := fun _ => 0
def zLnk : Lnk := ⟨0, zId⟩
def bareOb (x : Ob) : Ob := if x.k = 1 then ⟨x.k, x.data, [], zId, [], zLnk, ⟨#[]⟩⟩ else if x.k = 2 then ⟨x.k, [], x.ents, zId, [], zLnk, ⟨#[]⟩⟩ else if x.k = 3 then ⟨x.k, [], [], x.t, x.pars, zLnk, x.m⟩ else ⟨x.k, [], [], zId, [], x.tg, x.m⟩
def obSame (a b : Ob) : Bool := decide (a.k = b.k) && (decide (a.data = b.data) && (sameGL same_ent a.ents b.ents && (sameN 32 a.t b.t && (sameIL a.pars b.pars && (same_lnk a.tg b.tg && decide (a.m = b.m))))))
def obOkB (x : Ob) : Bool := mayB x && obSame (bareOb x) x
theorem sameN_self (f : Nat → Int) (n : Nat) : sameN n f f = true := by
  induction n with
  | zero => rfl
  | succ n ih => simp [sameN, ih]
theorem same_ent_self (x : Ent) : same_ent x x = true := by simp [same_ent, sameN_self]

end Go.Proofs.YtcmnmigcalibdaaGreatDoor

namespace Go.Proofs.YtcmnmigcalibdaaGreatDoor
open Go.Proofs.Tryz
open Go Go.Mv
set_option maxRecDepth 8000
def w8 (a b c d e f g h : UInt32) : Nat → UInt32 := gtf [a, b, c, d, e, f, g, h]
theorem bd_w8 (a b c d e f g h : UInt32) (w : World) : (Instr.build 151 #[(0, .int .u32 (a.toNat : Int)), (1, .int .u32 (b.toNat : Int)), (2, .int .u32 (c.toNat : Int)), (3, .int .u32 (d.toNat : Int)), (4, .int .u32 (e.toNat : Int)), (5, .int .u32 (f.toNat : Int)), (6, .int .u32 (g.toNat : Int)), (7, .int .u32 (h.toNat : Int))]).run Tryz.prog w = .ok (wfV 8 (w8 a b c d e f g h)) w := by
  simp [Instr.build, zeroValue151, runUnderlying151, sizeOf73, Value.cells, Instr.fill]
  rfl
/-- Eight words of a state. -/
def s8f (s : S8) : Nat → UInt32 := gtf s.l
theorem gt_over {α : Type} [Inhabited α] {l : List α} {i : Nat} (h : l.length ≤ i) : gt l i = default := by
  simp [gt, List.getElem?_eq_none h]
theorem upd_gtf {α : Type} [Inhabited α] {l : List α} {y : α} {k : Nat} (hk : k = l.length) : upd (gtf l) k y = gtf (l ++ [y]) := by
  subst hk
  funext i
  by_cases h : i = l.length
  · subst h; rw [upd_same]; simp [gtf, gt]
  · rw [upd_other h]
    rcases Nat.lt_or_ge i l.length with h1 | h1
    · simp [gtf, gt, List.getElem?_append_left h1]
    · show gt l i = gt (l ++ [y]) i
      rw [gt_over h1, gt_over (by simp; omega)]
theorem ws_upd {x : List UInt8} {i : Nat} {y : UInt32} (h : y = shaNext x (shaWs x i) i) : (wfV 64 (upd (gtf (shaWs x i)) i y)).cells = (wfV 64 (gtf (shaWs x (i + 1)))).cells := by
  rw [upd_gtf (shaWs_len x i).symm, h]; rfl
def shaPairs (x : List UInt8) : List (Nat × UInt32) := (List.range 64).map fun i => (i, gt (shaWs x 64) i)
theorem shaPairs_len (x : List UInt8) : (shaPairs x).length = 64 := by simp [shaPairs]
theorem shaPairs_at (x : List UInt8) {i : Nat} (h : i < 64) : (shaPairs x)[i]? = some (i, gt (shaWs x 64) i) := by simp [shaPairs, h]
theorem ws_at (x : List UInt8) {i : Nat} (h : i < 64) : gt (shaWs x 64) i = gt (shaWs x (i + 1)) i := by
  have := shaWs_take x (n := i + 1) (m := 64) (by omega)
  rw [← this, gt, gt, List.getD_eq_getElem?_getD, List.getD_eq_getElem?_getD, List.getElem?_take]; simp
theorem take_next {α : Type} {l : List α} {i : Nat} {y : α} (h : l[i]? = some y) : l.take (i + 1) = l.take i ++ [y] := by rw [List.take_add_one, h]; rfl
theorem pairs_next (x : List UInt8) {i : Nat} (h : i < 64) : (shaPairs x).take i ++ [(i, gt (shaWs x (i + 1)) i)] = (shaPairs x).take (i + 1) := by
  rw [take_next (shaPairs_at x h), ws_at x h]
theorem pairs_pre (x : List UInt8) {i : Nat} (h : i < 64) : (shaPairs x).take i ++ [(i, gt (shaWs x (i + 1)) i)] <+: shaPairs x := by
  rw [pairs_next x h]; exact List.take_prefix _ _

theorem c_rotl (x : UInt32) (n : Nat) (w : World) (h1 : 1 ≤ n) (h2 : n < 32) (hH : Hp [] w) : Calls Tryz.prog 187 #[.int .u32 (x.toNat : Int), .int .i64 (-(n : Int))] w (Ret w [] fun v H1 => v = .int .u32 ((rotr x n).toNat : Int) ∧ H1 = []) := by
 refine fn_enter (args := [_, _]) func187 rfl ntmps187 rfl hH (sq (pl (qa rfl (n0 (sq (pn_plain [1] rfl (qm rfl (qq rfl (RD.conv runUnderlying3 runUnderlying129 rfl) (qq rfl (RD.rotk h1 h2 rfl rfl) ?_)))))))))
 refine qa rfl (n0 (sq (pl (qm rfl (qm rfl (qq rfl (RD.shlW (a := x) (n := (32 - n : Nat)) rfl rfl (by omega)) (qm rfl (qm rfl (qq rfl (RD.as (v := .int .u64 (n : Int)) (RD.sub rfl rfl) (congrArg (Value.int .u64) (by rw [u64_wrap]; omega))) ?_)))))))))
 exact qq rfl (RD.shrW (a := x) (n := n) rfl rfl (by omega)) (qq rfl (RD.orW (a := (x <<< UInt32.ofNat (32 - n : Nat))) (b := (x >>> UInt32.ofNat n)) rfl rfl) (qa rfl (n0 (rt (pn_doneS [] rfl rfl ⟨congrArg (fun a : UInt32 => Value.int .u32 (a.toNat : Int)) (UInt32.or_comm _ _), rfl⟩ (fun _ => Nat.zero_le _) (fun _ he => nomatch he))))))
theorem c_spread (l : List UInt8) (w : World) (hH : Hp [] w) : Calls Tryz.prog 186 #[bfV 64 (gtf l)] w (Ret w [] fun v H1 => ∃ b, v = .func (.func 230) #[] #[.pointer (some ⟨b, 0, none⟩)] ∧ H1 = [(b, .cells (bfV 64 (gtf l)).cells 238 (0, 0))]) := by
 refine fn_enter (args := [_]) func186 rfl ntmps186 rfl hH (sq (pl (TE_boxC (bfV 64 (gtf l)).cells rfl rfl rfl trivial rfl fun b1 hb1 => (qa rfl (n0 (sq (pl (qq rfl (RD.makeFunc rfl rfl) (qa rfl ?_)))))))))
 exact n0 (rt (dS [(b1, .cells (bfV 64 (gtf l)).cells 238 (0, 0))] rfl rfl ⟨b1, rfl, rfl⟩ (ownC (.inl hb1) own0)))
theorem it_spread (x1 : Nat) (l : List UInt8) : Iter Tryz.prog 230 [.pointer (some ⟨x1, 0, none⟩)] (fun (x : Nat × UInt32) => [.int .i64 (x.1 : Int), .int .u32 (x.2.toNat : Int)]) [(x1, .cells (bfV 64 (gtf l)).cells 238 (0, 0))] (shaPairs l) (fun _ HI' => HI' = []) := by
 intro σ yl HJ G S w s0 h0 hHp hy
 refine fn_enter (args := [_, _]) func230 rfl ntmps230 rfl hHp (pn_scope (sq (plG [] ((x1, .cells (bfV 64 (gtf l)).cells 238 (0, 0)) :: (HJ s0)) (TE_allocC (wfV 64 (fun _ => 0)).cells rfl zeroValue286 (by kernel_rfl) trivial rfl fun b3 hb3 => (n0 (sq (pn_label (sq (pl ?_)))))))))
 refine qm rfl (n0 (pn_block (pn_sp ((b3, .cells (wfV 64 (gtf (shaWs l 0))).cells 286 (0, 0)) :: (x1, .cells (bfV 64 (gtf l)).cells 238 (0, 0)) :: (HJ s0)) (fun a => by rw [show (wfV 64 (gtf (shaWs l 0))).cells = (wfV 64 (fun _ => 0)).cells from rfl]; exact Nat.le_refl _) (lpS (σ := Nat × σ) (fun q => [(0, .func (.yield yl) #[] #[]), (1, .pointer (some ⟨x1, 0, none⟩)), (3, .pointer (some ⟨b3, 0, none⟩)), (9, .int .i64 (q.1 : Int))]) (fun q => ((b3, .cells (wfV 64 (gtf (shaWs l q.1))).cells 286 (0, 0)) :: (x1, .cells (bfV 64 (gtf l)).cells 238 (0, 0)) :: (HJ q.2))) (fun q => (q.1 ≤ 64) ∧ (G ((shaPairs l).take q.1) q.2) ∧ (∀ e ∈ HJ q.2, w.heap.size ≤ e.1 ∨ e.1 ∈ keys ([(x1, .cells (bfV 64 (gtf l)).cells 238 (0, 0))] ++ HJ s0))) (fun q => 64 - q.1) (0, s0) ⟨(by omega), h0, (fun e he => .inr (mem_keys.2 ⟨e, List.mem_append_right _ he, rfl⟩))⟩ ⟨rfl, rfl, rfl, rfl, trivial⟩ ?_))))
 rintro ⟨i, s⟩ ⟨hi, hG, hXs⟩
 dsimp only at hi hG hXs ⊢
 refine sq (pl (qq rfl (RD.lss rfl rfl) (n0 (sq (pn_condD rfl (fun hc1 => ?_) (fun hc1 => ?_))))))
 ·refine sk (sq (pn_block (sq (pl (qm rfl (qa rfl (n0 (sq (sq ?_)))))))))
  refine pl (qm rfl (qq rfl (RD.lss rfl rfl) (n0 (pn_condD rfl (fun hc2 => ?_) (fun hc2 => ?_)))))
  ·refine dG [4, 5, 11, 12, 19, 20, 27, 28] [(b3, .cells (wfV 64 (gtf (shaWs l i))).cells 286 (0, 0))] ((x1, .cells (bfV 64 (gtf l)).cells 238 (0, 0)) :: (HJ s)) (qm rfl (qm rfl (qq rfl (RD.mulI rfl rfl (by omega) (by omega)) (qq rfl (RD.indexAddrA runUnderlying238 sizeOf5 rfl rfl (by omega) (by omega)) (qq rfl (RD.load (i := 0) (v := .int .u8 (((gtf l) (4 * i)).toNat : Int)) isAgg5 rfl rfl (bf_get (4 * i) (by omega) (by omega))) (qq rfl (RD.widW (c := ((gtf l) (4 * i))) runUnderlying5 runUnderlying73 rfl) (qq rfl (RD.shlW (a := (((gtf l) (4 * i))).toUInt32) (n := 24) rfl rfl (by decide)) (qm rfl (qq rfl (RD.mulI rfl rfl (by omega) (by omega)) ?_)))))))))
   refine qq rfl (RD.addI rfl rfl (by omega) (by omega)) (qq rfl (RD.indexAddrA runUnderlying238 sizeOf5 rfl rfl (by omega) (by omega)) (qq rfl (RD.load (i := 0) (v := .int .u8 (((gtf l) ((4 * i) + 1)).toNat : Int)) isAgg5 rfl rfl (bf_get ((4 * i) + 1) (by omega) (by omega))) (qq rfl (RD.widW (c := ((gtf l) ((4 * i) + 1))) runUnderlying5 runUnderlying73 rfl) (qq rfl (RD.shlW (a := (((gtf l) ((4 * i) + 1))).toUInt32) (n := 16) rfl rfl (by decide)) (qq rfl (RD.orW (a := ((((gtf l) (4 * i))).toUInt32 <<< UInt32.ofNat 24)) (b := ((((gtf l) ((4 * i) + 1))).toUInt32 <<< UInt32.ofNat 16)) rfl rfl) (qm rfl (qq rfl (RD.mulI rfl rfl (by omega) (by omega)) (qq rfl (RD.addI rfl rfl (by omega) (by omega)) (qq rfl (RD.indexAddrA runUnderlying238 sizeOf5 rfl rfl (by omega) (by omega)) ?_)))))))))
   refine qq rfl (RD.load (i := 0) (v := .int .u8 (((gtf l) ((4 * i) + 2)).toNat : Int)) isAgg5 rfl rfl (bf_get ((4 * i) + 2) (by omega) (by omega))) (qq rfl (RD.widW (c := ((gtf l) ((4 * i) + 2))) runUnderlying5 runUnderlying73 rfl) (qq rfl (RD.shlW (a := (((gtf l) ((4 * i) + 2))).toUInt32) (n := 8) rfl rfl (by decide)) (qq rfl (RD.orW (a := (((((gtf l) (4 * i))).toUInt32 <<< UInt32.ofNat 24) ||| ((((gtf l) ((4 * i) + 1))).toUInt32 <<< UInt32.ofNat 16))) (b := ((((gtf l) ((4 * i) + 2))).toUInt32 <<< UInt32.ofNat 8)) rfl rfl) (qm rfl (qq rfl (RD.mulI rfl rfl (by omega) (by omega)) (qq rfl (RD.addI rfl rfl (by omega) (by omega)) (qq rfl (RD.indexAddrA runUnderlying238 sizeOf5 rfl rfl (by omega) (by omega)) (qq rfl (RD.load (i := 0) (v := .int .u8 (((gtf l) ((4 * i) + 3)).toNat : Int)) isAgg5 rfl rfl (bf_get ((4 * i) + 3) (by omega) (by omega))) (qq rfl (RD.widW (c := ((gtf l) ((4 * i) + 3))) runUnderlying5 runUnderlying73 rfl) ?_)))))))))
   refine qq rfl (RD.orW (a := ((((((gtf l) (4 * i))).toUInt32 <<< UInt32.ofNat 24) ||| ((((gtf l) ((4 * i) + 1))).toUInt32 <<< UInt32.ofNat 16)) ||| ((((gtf l) ((4 * i) + 2))).toUInt32 <<< UInt32.ofNat 8))) (b := (((gtf l) ((4 * i) + 3))).toUInt32) rfl rfl) (qq rfl (RD.indexAddrA runUnderlying286 sizeOf73 rfl rfl (by omega) (by omega)) (TE_storeC 0 _ _ [(b3, .cells (wfV 64 (upd (gtf (shaWs l i)) i (((((((gtf l) (4 * i))).toUInt32 <<< UInt32.ofNat 24) ||| ((((gtf l) ((4 * i) + 1))).toUInt32 <<< UInt32.ofNat 16)) ||| ((((gtf l) ((4 * i) + 2))).toUInt32 <<< UInt32.ofNat 8)) ||| (((gtf l) ((4 * i) + 3))).toUInt32))).cells 286 (0, 0))] rfl sizeOf73 trivial rfl rfl rfl rfl rfl (wf_lt i (by omega) (by omega)) (wf_put i (by omega) (((((((gtf l) (4 * i))).toUInt32 <<< UInt32.ofNat 24) ||| ((((gtf l) ((4 * i) + 1))).toUInt32 <<< UInt32.ofNat 16)) ||| ((((gtf l) ((4 * i) + 2))).toUInt32 <<< UInt32.ofNat 8)) ||| (((gtf l) ((4 * i) + 3))).toUInt32)) rfl (.inl hb3) ?_))
   have he3 : (wfV 64 (upd (gtf (shaWs l i)) i (((((((gtf l) (4 * i))).toUInt32 <<< UInt32.ofNat 24) ||| ((((gtf l) ((4 * i) + 1))).toUInt32 <<< UInt32.ofNat 16)) ||| ((((gtf l) ((4 * i) + 2))).toUInt32 <<< UInt32.ofNat 8)) ||| (((gtf l) ((4 * i) + 3))).toUInt32))).cells = (wfV 64 (gtf (shaWs l (i + 1)))).cells := ws_upd (by rw [shaNext, if_pos (by omega)]; rfl)
   refine TE_sp [(b3, .cells (wfV 64 (gtf (shaWs l (i + 1)))).cells 286 (0, 0))] (fun a => by rw [he3]; exact Nat.le_refl _) (TE_nil (sq (plG [] ((b3, .cells (wfV 64 (gtf (shaWs l (i + 1)))).cells 286 (0, 0)) :: (x1, .cells (bfV 64 (gtf l)).cells 238 (0, 0)) :: (HJ s)) (qm rfl (qm rfl (qm rfl (qq rfl (RD.indexAddrA runUnderlying286 sizeOf73 rfl rfl (by omega) (by omega)) (ql rfl (RD.load (i := 0) (v := .int .u32 (((gtf (shaWs l (i + 1))) i).toNat : Int)) isAgg73 rfl rfl (wf_get i (by omega) (by omega))) (tsp ([(b3, .cells (wfV 64 (gtf (shaWs l (i + 1)))).cells 286 (0, 0)), (x1, .cells (bfV 64 (gtf l)).cells 238 (0, 0))] ++ (HJ s)) ?_)))))))))
   refine TE_yieldT [(b3, .cells (wfV 64 (gtf (shaWs l (i + 1)))).cells 286 (0, 0)), (x1, .cells (bfV 64 (gtf l)).cells 238 (0, 0))] (HJ s) rfl rfl rfl trivial rfl rfl rfl hXs (fun W hW => hy ((shaPairs l).take i) (i, gt (shaWs l (i + 1)) i) s W hG (pairs_pre l (by omega)) hW.fr hW.hp.s) ?_
   rintro v4 H5 ⟨s6, rfl, ⟨rfl, hG7⟩ | ⟨rfl, hS8⟩⟩ hX9
   ·exact tsp ((b3, .cells (wfV 64 (gtf (shaWs l (i + 1)))).cells 286 (0, 0)) :: (x1, .cells (bfV 64 (gtf l)).cells 238 (0, 0)) :: (HJ s6)) (qq rfl (RD.as (v := .bool false) (RD.not rfl) rfl) (n0 (pn_condF rfl (sk (pl (qq rfl (RD.addI rfl rfl (by omega) (by omega)) (qm rfl (n0 (agS ((i + 1), s6) ⟨(by omega), (by rw [← pairs_next l (by omega)]; exact hG7), hX9⟩ (by dsimp only; omega) ⟨rfl, rfl, rfl, rfl, trivial⟩)))))))))
   ·exact tsp ((b3, .cells (wfV 64 (gtf (shaWs l (i + 1)))).cells 286 (0, 0)) :: (x1, .cells (bfV 64 (gtf l)).cells 238 (0, 0)) :: (HJ s6)) (qq rfl (RD.as (v := .bool true) (RD.not rfl) rfl) (n0 (pn_condT rfl (xt (dS (HJ s6) rfl rfl ⟨s6, [], rfl, .inr ⟨_, pairs_pre l (by omega), hS8, rfl⟩⟩ hX9)))))
  ·refine sq (dG [3, 7] [] ((b3, .cells (wfV 64 (gtf (shaWs l i))).cells 286 (0, 0)) :: (x1, .cells (bfV 64 (gtf l)).cells 238 (0, 0)) :: (HJ s)) (qm rfl (qq rfl (RD.subI rfl rfl (by omega) (by omega)) (qq rfl (RD.indexAddrA runUnderlying286 sizeOf73 rfl rfl (by omega) (by omega)) (qq rfl (RD.load (i := 0) (v := .int .u32 (((gtf (shaWs l i)) (i - 15)).toNat : Int)) isAgg73 rfl rfl (wf_get (i - 15) (by omega) (by omega))) (qm rfl (qq rfl (RD.subI rfl rfl (by omega) (by omega)) (qq rfl (RD.indexAddrA runUnderlying286 sizeOf73 rfl rfl (by omega) (by omega)) (qq rfl (RD.load (i := 0) (v := .int .u32 (((gtf (shaWs l i)) (i - 2)).toNat : Int)) isAgg73 rfl rfl (wf_get (i - 2) (by omega) (by omega))) ?_)))))))))
   refine qa rfl (qa rfl (TE_nil (sq (plG [] ((b3, .cells (wfV 64 (gtf (shaWs l i))).cells 286 (0, 0)) :: (x1, .cells (bfV 64 (gtf l)).cells 238 (0, 0)) :: (HJ s)) (qm rfl (cG rfl call187 (fun w hw => c_rotl ((gtf (shaWs l i)) (i - 15)) 7 w (by decide) (by decide) hw.s) ?_))))))
   rintro v10 H11 ⟨rfl, rfl⟩ -
   refine qm rfl (cG rfl call187 (fun w hw => c_rotl ((gtf (shaWs l i)) (i - 15)) 18 w (by decide) (by decide) hw.s) ?_)
   rintro v12 H13 ⟨rfl, rfl⟩ -
   refine qq rfl (RD.xorW (a := (rotr ((gtf (shaWs l i)) (i - 15)) 7)) (b := (rotr ((gtf (shaWs l i)) (i - 15)) 18)) rfl rfl) (qm rfl (qq rfl (RD.shrW (a := ((gtf (shaWs l i)) (i - 15))) (n := 3) rfl rfl (by decide)) (qq rfl (RD.xorW (a := ((rotr ((gtf (shaWs l i)) (i - 15)) 7) ^^^ (rotr ((gtf (shaWs l i)) (i - 15)) 18))) (b := (((gtf (shaWs l i)) (i - 15)) >>> UInt32.ofNat 3)) rfl rfl) (qa rfl (n0 (sq (pl (qm rfl (cG rfl call187 (fun w hw => c_rotl ((gtf (shaWs l i)) (i - 2)) 17 w (by decide) (by decide) hw.s) ?_)))))))))
   rintro v14 H15 ⟨rfl, rfl⟩ -
   refine qm rfl (cG rfl call187 (fun w hw => c_rotl ((gtf (shaWs l i)) (i - 2)) 19 w (by decide) (by decide) hw.s) ?_)
   rintro v16 H17 ⟨rfl, rfl⟩ -
   refine qq rfl (RD.xorW (a := (rotr ((gtf (shaWs l i)) (i - 2)) 17)) (b := (rotr ((gtf (shaWs l i)) (i - 2)) 19)) rfl rfl) (qm rfl (qq rfl (RD.shrW (a := ((gtf (shaWs l i)) (i - 2))) (n := 10) rfl rfl (by decide)) (qq rfl (RD.xorW (a := ((rotr ((gtf (shaWs l i)) (i - 2)) 17) ^^^ (rotr ((gtf (shaWs l i)) (i - 2)) 19))) (b := (((gtf (shaWs l i)) (i - 2)) >>> UInt32.ofNat 10)) rfl rfl) (qa rfl (n0 (pn_drawLG [] [(b3, .cells (wfV 64 (gtf (shaWs l i))).cells 286 (0, 0))] ((x1, .cells (bfV 64 (gtf l)).cells 238 (0, 0)) :: (HJ s)) ((.op 0 (.op 1 (.op 2 (.op 3 (.op 5 (.op 7 (.op 8 (.op 9 (.op 12 (.fork (.op 4 (.op 6 (.op 10 (.op 11 (.op 13 (.op 14 (.op 15 .nil))))))) (.op 10 (.op 4 (.op 6 (.op 11 (.op 13 (.op 14 (.op 15 .nil)))))))))))))))))) rfl (by kernel_rfl) (by kernel_rfl) (fun a => by simp -failIfUnchanged <;> omega) (qm rfl (qm rfl (qq rfl (RD.subI rfl rfl (by omega) (by omega)) ?_)))))))))
   refine qq rfl (RD.indexAddrA runUnderlying286 sizeOf73 rfl rfl (by omega) (by omega)) (qm rfl (qm rfl (qq rfl (RD.subI rfl rfl (by omega) (by omega)) (qq rfl (RD.indexAddrA runUnderlying286 sizeOf73 rfl rfl (by omega) (by omega)) (qm rfl (TE_fork ?_ ?_))))))
   ·refine ql rfl (RD.load (i := 0) (v := .int .u32 (((gtf (shaWs l i)) (i - 16)).toNat : Int)) isAgg73 rfl rfl (wf_get (i - 16) (by omega) (by omega))) (qq rfl (RD.addW (a := ((gtf (shaWs l i)) (i - 16))) (b := (((rotr ((gtf (shaWs l i)) (i - 15)) 7) ^^^ (rotr ((gtf (shaWs l i)) (i - 15)) 18)) ^^^ (((gtf (shaWs l i)) (i - 15)) >>> UInt32.ofNat 3))) rfl rfl) (ql rfl (RD.load (i := 0) (v := .int .u32 (((gtf (shaWs l i)) (i - 7)).toNat : Int)) isAgg73 rfl rfl (wf_get (i - 7) (by omega) (by omega))) (qq rfl (RD.addW (a := (((gtf (shaWs l i)) (i - 16)) + (((rotr ((gtf (shaWs l i)) (i - 15)) 7) ^^^ (rotr ((gtf (shaWs l i)) (i - 15)) 18)) ^^^ (((gtf (shaWs l i)) (i - 15)) >>> UInt32.ofNat 3)))) (b := ((gtf (shaWs l i)) (i - 7))) rfl rfl) (qq rfl (RD.addW (a := ((((gtf (shaWs l i)) (i - 16)) + (((rotr ((gtf (shaWs l i)) (i - 15)) 7) ^^^ (rotr ((gtf (shaWs l i)) (i - 15)) 18)) ^^^ (((gtf (shaWs l i)) (i - 15)) >>> UInt32.ofNat 3))) + ((gtf (shaWs l i)) (i - 7)))) (b := (((rotr ((gtf (shaWs l i)) (i - 2)) 17) ^^^ (rotr ((gtf (shaWs l i)) (i - 2)) 19)) ^^^ (((gtf (shaWs l i)) (i - 2)) >>> UInt32.ofNat 10))) rfl rfl) (qq rfl (RD.indexAddrA runUnderlying286 sizeOf73 rfl rfl (by omega) (by omega)) (TE_storeC 0 _ _ [(b3, .cells (wfV 64 (upd (gtf (shaWs l i)) i (((((gtf (shaWs l i)) (i - 16)) + (((rotr ((gtf (shaWs l i)) (i - 15)) 7) ^^^ (rotr ((gtf (shaWs l i)) (i - 15)) 18)) ^^^ (((gtf (shaWs l i)) (i - 15)) >>> UInt32.ofNat 3))) + ((gtf (shaWs l i)) (i - 7))) + (((rotr ((gtf (shaWs l i)) (i - 2)) 17) ^^^ (rotr ((gtf (shaWs l i)) (i - 2)) 19)) ^^^ (((gtf (shaWs l i)) (i - 2)) >>> UInt32.ofNat 10))))).cells 286 (0, 0))] rfl sizeOf73 trivial rfl rfl rfl rfl rfl (wf_lt i (by omega) (by omega)) (wf_put i (by omega) (((((gtf (shaWs l i)) (i - 16)) + (((rotr ((gtf (shaWs l i)) (i - 15)) 7) ^^^ (rotr ((gtf (shaWs l i)) (i - 15)) 18)) ^^^ (((gtf (shaWs l i)) (i - 15)) >>> UInt32.ofNat 3))) + ((gtf (shaWs l i)) (i - 7))) + (((rotr ((gtf (shaWs l i)) (i - 2)) 17) ^^^ (rotr ((gtf (shaWs l i)) (i - 2)) 19)) ^^^ (((gtf (shaWs l i)) (i - 2)) >>> UInt32.ofNat 10)))) rfl (.inl hb3) ?_))))))
    have he18 : (wfV 64 (upd (gtf (shaWs l i)) i (((((gtf (shaWs l i)) (i - 16)) + (((rotr ((gtf (shaWs l i)) (i - 15)) 7) ^^^ (rotr ((gtf (shaWs l i)) (i - 15)) 18)) ^^^ (((gtf (shaWs l i)) (i - 15)) >>> UInt32.ofNat 3))) + ((gtf (shaWs l i)) (i - 7))) + (((rotr ((gtf (shaWs l i)) (i - 2)) 17) ^^^ (rotr ((gtf (shaWs l i)) (i - 2)) 19)) ^^^ (((gtf (shaWs l i)) (i - 2)) >>> UInt32.ofNat 10))))).cells = (wfV 64 (gtf (shaWs l (i + 1)))).cells := ws_upd (by rw [shaNext, if_neg (by omega)]; rfl)
    refine TE_sp [(b3, .cells (wfV 64 (gtf (shaWs l (i + 1)))).cells 286 (0, 0))] (fun a => by rw [he18]; exact Nat.le_refl _) (TE_nil (sq (plG [] ((b3, .cells (wfV 64 (gtf (shaWs l (i + 1)))).cells 286 (0, 0)) :: (x1, .cells (bfV 64 (gtf l)).cells 238 (0, 0)) :: (HJ s)) (qm rfl (qm rfl (qm rfl (qq rfl (RD.indexAddrA runUnderlying286 sizeOf73 rfl rfl (by omega) (by omega)) (ql rfl (RD.load (i := 0) (v := .int .u32 (((gtf (shaWs l (i + 1))) i).toNat : Int)) isAgg73 rfl rfl (wf_get i (by omega) (by omega))) (tsp ([(b3, .cells (wfV 64 (gtf (shaWs l (i + 1)))).cells 286 (0, 0)), (x1, .cells (bfV 64 (gtf l)).cells 238 (0, 0))] ++ (HJ s)) ?_)))))))))
    refine TE_yieldT [(b3, .cells (wfV 64 (gtf (shaWs l (i + 1)))).cells 286 (0, 0)), (x1, .cells (bfV 64 (gtf l)).cells 238 (0, 0))] (HJ s) rfl rfl rfl trivial rfl rfl rfl hXs (fun W hW => hy ((shaPairs l).take i) (i, gt (shaWs l (i + 1)) i) s W hG (pairs_pre l (by omega)) hW.fr hW.hp.s) ?_
    rintro v19 H20 ⟨s21, rfl, ⟨rfl, hG22⟩ | ⟨rfl, hS23⟩⟩ hX24
    ·exact tsp ((b3, .cells (wfV 64 (gtf (shaWs l (i + 1)))).cells 286 (0, 0)) :: (x1, .cells (bfV 64 (gtf l)).cells 238 (0, 0)) :: (HJ s21)) (qq rfl (RD.as (v := .bool false) (RD.not rfl) rfl) (n0 (pn_condF rfl (sk (pl (qq rfl (RD.addI rfl rfl (by omega) (by omega)) (qm rfl (n0 (agS ((i + 1), s21) ⟨(by omega), (by rw [← pairs_next l (by omega)]; exact hG22), hX24⟩ (by dsimp only; omega) ⟨rfl, rfl, rfl, rfl, trivial⟩)))))))))
    ·exact tsp ((b3, .cells (wfV 64 (gtf (shaWs l (i + 1)))).cells 286 (0, 0)) :: (x1, .cells (bfV 64 (gtf l)).cells 238 (0, 0)) :: (HJ s21)) (qq rfl (RD.as (v := .bool true) (RD.not rfl) rfl) (n0 (pn_condT rfl (xt (dS (HJ s21) rfl rfl ⟨s21, [], rfl, .inr ⟨_, pairs_pre l (by omega), hS23, rfl⟩⟩ hX24)))))
   refine ql rfl (RD.load (i := 0) (v := .int .u32 (((gtf (shaWs l i)) (i - 7)).toNat : Int)) isAgg73 rfl rfl (wf_get (i - 7) (by omega) (by omega))) (ql rfl (RD.load (i := 0) (v := .int .u32 (((gtf (shaWs l i)) (i - 16)).toNat : Int)) isAgg73 rfl rfl (wf_get (i - 16) (by omega) (by omega))) (qq rfl (RD.addW (a := ((gtf (shaWs l i)) (i - 16))) (b := (((rotr ((gtf (shaWs l i)) (i - 15)) 7) ^^^ (rotr ((gtf (shaWs l i)) (i - 15)) 18)) ^^^ (((gtf (shaWs l i)) (i - 15)) >>> UInt32.ofNat 3))) rfl rfl) (qq rfl (RD.addW (a := (((gtf (shaWs l i)) (i - 16)) + (((rotr ((gtf (shaWs l i)) (i - 15)) 7) ^^^ (rotr ((gtf (shaWs l i)) (i - 15)) 18)) ^^^ (((gtf (shaWs l i)) (i - 15)) >>> UInt32.ofNat 3)))) (b := ((gtf (shaWs l i)) (i - 7))) rfl rfl) (qq rfl (RD.addW (a := ((((gtf (shaWs l i)) (i - 16)) + (((rotr ((gtf (shaWs l i)) (i - 15)) 7) ^^^ (rotr ((gtf (shaWs l i)) (i - 15)) 18)) ^^^ (((gtf (shaWs l i)) (i - 15)) >>> UInt32.ofNat 3))) + ((gtf (shaWs l i)) (i - 7)))) (b := (((rotr ((gtf (shaWs l i)) (i - 2)) 17) ^^^ (rotr ((gtf (shaWs l i)) (i - 2)) 19)) ^^^ (((gtf (shaWs l i)) (i - 2)) >>> UInt32.ofNat 10))) rfl rfl) (qq rfl (RD.indexAddrA runUnderlying286 sizeOf73 rfl rfl (by omega) (by omega)) (TE_storeC 0 _ _ [(b3, .cells (wfV 64 (upd (gtf (shaWs l i)) i (((((gtf (shaWs l i)) (i - 16)) + (((rotr ((gtf (shaWs l i)) (i - 15)) 7) ^^^ (rotr ((gtf (shaWs l i)) (i - 15)) 18)) ^^^ (((gtf (shaWs l i)) (i - 15)) >>> UInt32.ofNat 3))) + ((gtf (shaWs l i)) (i - 7))) + (((rotr ((gtf (shaWs l i)) (i - 2)) 17) ^^^ (rotr ((gtf (shaWs l i)) (i - 2)) 19)) ^^^ (((gtf (shaWs l i)) (i - 2)) >>> UInt32.ofNat 10))))).cells 286 (0, 0))] rfl sizeOf73 trivial rfl rfl rfl rfl rfl (wf_lt i (by omega) (by omega)) (wf_put i (by omega) (((((gtf (shaWs l i)) (i - 16)) + (((rotr ((gtf (shaWs l i)) (i - 15)) 7) ^^^ (rotr ((gtf (shaWs l i)) (i - 15)) 18)) ^^^ (((gtf (shaWs l i)) (i - 15)) >>> UInt32.ofNat 3))) + ((gtf (shaWs l i)) (i - 7))) + (((rotr ((gtf (shaWs l i)) (i - 2)) 17) ^^^ (rotr ((gtf (shaWs l i)) (i - 2)) 19)) ^^^ (((gtf (shaWs l i)) (i - 2)) >>> UInt32.ofNat 10)))) rfl (.inl hb3) ?_))))))
   have he25 : (wfV 64 (upd (gtf (shaWs l i)) i (((((gtf (shaWs l i)) (i - 16)) + (((rotr ((gtf (shaWs l i)) (i - 15)) 7) ^^^ (rotr ((gtf (shaWs l i)) (i - 15)) 18)) ^^^ (((gtf (shaWs l i)) (i - 15)) >>> UInt32.ofNat 3))) + ((gtf (shaWs l i)) (i - 7))) + (((rotr ((gtf (shaWs l i)) (i - 2)) 17) ^^^ (rotr ((gtf (shaWs l i)) (i - 2)) 19)) ^^^ (((gtf (shaWs l i)) (i - 2)) >>> UInt32.ofNat 10))))).cells = (wfV 64 (gtf (shaWs l (i + 1)))).cells := ws_upd (by rw [shaNext, if_neg (by omega)]; rfl)
   refine TE_sp [(b3, .cells (wfV 64 (gtf (shaWs l (i + 1)))).cells 286 (0, 0))] (fun a => by rw [he25]; exact Nat.le_refl _) (TE_nil (sq (plG [] ((b3, .cells (wfV 64 (gtf (shaWs l (i + 1)))).cells 286 (0, 0)) :: (x1, .cells (bfV 64 (gtf l)).cells 238 (0, 0)) :: (HJ s)) (qm rfl (qm rfl (qm rfl (qq rfl (RD.indexAddrA runUnderlying286 sizeOf73 rfl rfl (by omega) (by omega)) (ql rfl (RD.load (i := 0) (v := .int .u32 (((gtf (shaWs l (i + 1))) i).toNat : Int)) isAgg73 rfl rfl (wf_get i (by omega) (by omega))) (tsp ([(b3, .cells (wfV 64 (gtf (shaWs l (i + 1)))).cells 286 (0, 0)), (x1, .cells (bfV 64 (gtf l)).cells 238 (0, 0))] ++ (HJ s)) ?_)))))))))
   refine TE_yieldT [(b3, .cells (wfV 64 (gtf (shaWs l (i + 1)))).cells 286 (0, 0)), (x1, .cells (bfV 64 (gtf l)).cells 238 (0, 0))] (HJ s) rfl rfl rfl trivial rfl rfl rfl hXs (fun W hW => hy ((shaPairs l).take i) (i, gt (shaWs l (i + 1)) i) s W hG (pairs_pre l (by omega)) hW.fr hW.hp.s) ?_
   rintro v26 H27 ⟨s28, rfl, ⟨rfl, hG29⟩ | ⟨rfl, hS30⟩⟩ hX31
   ·exact tsp ((b3, .cells (wfV 64 (gtf (shaWs l (i + 1)))).cells 286 (0, 0)) :: (x1, .cells (bfV 64 (gtf l)).cells 238 (0, 0)) :: (HJ s28)) (qq rfl (RD.as (v := .bool false) (RD.not rfl) rfl) (n0 (pn_condF rfl (sk (pl (qq rfl (RD.addI rfl rfl (by omega) (by omega)) (qm rfl (n0 (agS ((i + 1), s28) ⟨(by omega), (by rw [← pairs_next l (by omega)]; exact hG29), hX31⟩ (by dsimp only; omega) ⟨rfl, rfl, rfl, rfl, trivial⟩)))))))))
   ·exact tsp ((b3, .cells (wfV 64 (gtf (shaWs l (i + 1)))).cells 286 (0, 0)) :: (x1, .cells (bfV 64 (gtf l)).cells 238 (0, 0)) :: (HJ s28)) (qq rfl (RD.as (v := .bool true) (RD.not rfl) rfl) (n0 (pn_condT rfl (xt (dS (HJ s28) rfl rfl ⟨s28, [], rfl, .inr ⟨_, pairs_pre l (by omega), hS30, rfl⟩⟩ hX31)))))
 ·refine xt ?_
  obtain rfl : i = 64 := (by omega)
  rw [List.take_of_length_le (by rw [shaPairs_len]; omega)] at hG
  exact dS (HJ s) rfl rfl ⟨s, [], rfl, .inl ⟨hG, rfl⟩⟩ hXs
end Go.Proofs.YtcmnmigcalibdaaGreatDoor
