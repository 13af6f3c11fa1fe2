import Derived.Test.YtjdjlcmajeikcaaObc
import Derived.Test.YtjdjlcmajeikcaaCna
import Derived.Test.YtjdjlcmajeikcaaIds
namespace Go.Proofs.Ytjdjlcmajeikcaa
open Go Go.Mv
set_option maxRecDepth 8000
def sameGL {α : Type} (f : α → α → Bool) : List α → List α → Bool
  | [], [] => true
  | x :: xs, y :: ys => f x y && sameGL f xs ys
  | _, _ => false
section
variable {α : Type} {f : α → α → Bool}
theorem sameG_len : ∀ {xs ys : List α}, xs.length ≠ ys.length → sameGL f xs ys = false
  | [], [], h => absurd rfl h
  | [], _ :: _, _ => rfl
  | _ :: _, [], _ => rfl
  | x :: xs, y :: ys, h => by
    rw [sameGL, sameG_len (fun e => h (by simp [e])), Bool.and_false]
theorem sameG_F [Inhabited α] : ∀ {xs ys : List α} {i : Nat}, i < xs.length → i < ys.length → f (gt xs i) (gt ys i) = false → sameGL f xs ys = false
  | [], _, _, h, _, _ => absurd h (Nat.not_lt_zero _)
  | _ :: _, [], _, _, h, _ => absurd h (Nat.not_lt_zero _)
  | x :: xs, y :: ys, 0, _, _, h => by
    have h' : f x y = false := h
    rw [sameGL, h', Bool.false_and]
  | x :: xs, y :: ys, i + 1, h1, h2, h => by
    rw [sameGL, sameG_F (i := i) (by simpa using h1) (by simpa using h2) h, Bool.and_false]
theorem sameG_T [Inhabited α] : ∀ {xs ys : List α}, xs.length = ys.length → (∀ j, j < xs.length → f (gt xs j) (gt ys j) = true) → sameGL f xs ys = true
  | [], [], _, _ => rfl
  | [], _ :: _, h, _ => absurd h (by simp)
  | _ :: _, [], h, _ => absurd h (by simp)
  | x :: xs, y :: ys, h, ha => by
    have h0 : f x y = true := ha 0 (by simp)
    rw [sameGL, h0, Bool.true_and, sameG_T (by simpa using h) fun j hj => ha (j + 1) (by simpa using hj)]
theorem sameG_self (hf : ∀ x, f x x = true) : ∀ xs : List α, sameGL f xs xs = true
  | [] => rfl
  | x :: xs => by rw [sameGL, hf x, sameG_self hf xs]; rfl
end
theorem sameIG_eq : ∀ xs ys : List (Nat → Int), sameIL xs ys = sameGL (sameN 32) xs ys
  | [], [] => rfl
  | [], _ :: _ => rfl
  | _ :: _, [] => rfl
  | x :: xs, y :: ys => by rw [sameIL, sameGL, sameIG_eq xs ys]
theorem ba_eq {a b : List UInt8} : ((⟨a.toArray⟩ : ByteArray) = ⟨b.toArray⟩) ↔ a = b := by simp
def idZ (t : Nat → Int) : Bool := sameN 32 t fun _ => 0
structure EntOk (e : Ent) : Prop where
  n : e.name.size ≤ 100
  id : IdOk e.id
structure ObW (x : Ob) : Prop where
  d : x.data.length ≤ 9223372036854775807
  e : x.ents.length ≤ 9223372036854775807
  p : x.pars.length ≤ 9223372036854775807
  en : ∀ e ∈ x.ents, IdOk e.id
  t : IdOk x.t
  g : IdOk x.tg.id
  pk : ∀ p ∈ x.pars, IdOk p
  pc : ∀ p ∈ x.pars, IdCan p
structure ObOk (x : Ob) : Prop where
  d : x.data.length ≤ 1100
  e : x.ents.length ≤ 40
  p : x.pars.length ≤ 10
  m : x.m.size ≤ 300
  en : ∀ e ∈ x.ents, EntOk e
  t : IdOk x.t
  g : IdOk x.tg.id
  pk : ∀ p ∈ x.pars, IdOk p
  pc : ∀ p ∈ x.pars, IdCan p
def greatB (x : Ob) : Bool := decide (1100 < x.data.length) || decide (40 < x.ents.length) || decide (10 < x.pars.length) || decide (300 < x.m.size) || x.ents.any fun e => decide (100 < e.name.size)
def greatI (x : Ob) : Int := if greatB x then 1 else 0
theorem great_1 {x : Ob} (h : 1100 < (x.data.length : Int) ∨ 40 < (x.ents.length : Int) ∨ 10 < (x.pars.length : Int) ∨ 300 < (x.m.size : Int)) : (1 : Int) = greatI x := by
  have : greatB x = true := by
    simp only [greatB, Bool.or_eq_true, decide_eq_true_eq]
    omega
  rw [greatI, this]; rfl
theorem great_2 {x : Ob} {i : Nat} (hi : i < x.ents.length) (h : 100 < ((gt x.ents i).name.size : Int)) : (1 : Int) = greatI x := by
  have : greatB x = true := by
    simp only [greatB, Bool.or_eq_true]
    exact .inr (List.any_eq_true.2 ⟨_, gt_mem hi, decide_eq_true (by omega)⟩)
  rw [greatI, this]; rfl
theorem great_3 {x : Ob} (h1 : (x.data.length : Int) ≤ 1100) (h2 : (x.ents.length : Int) ≤ 40) (h3 : (x.pars.length : Int) ≤ 10) (h4 : (x.m.size : Int) ≤ 300) (h : ∀ j, j < x.ents.length → (gt x.ents j).name.size ≤ 100) : (0 : Int) = greatI x := by
  have h5 : (x.ents.any fun e => decide (100 < e.name.size)) = false := by
    refine List.any_eq_false.2 fun e he => ?_
    obtain ⟨j, hj, rfl⟩ := List.getElem_of_mem he
    have := h j hj
    have e1 := gt_some hj
    rw [List.getElem?_eq_getElem hj] at e1
    rw [← Option.some.inj e1] at this
    simpa using this
  have : greatB x = false := by
    simp only [greatB, h5, Bool.or_false, Bool.or_eq_false_iff, decide_eq_false_iff_not]
    omega
  rw [greatI, this]; rfl
theorem great_ok {x : Ob} (hw : ObW x) (h : ¬ 0 < greatI x) : ObOk x := by
  have : greatB x = false := by
    cases hg : greatB x with
    | false => rfl
    | true => exact absurd (by rw [greatI, hg]; decide) h
  simp only [greatB, Bool.or_eq_false_iff, decide_eq_false_iff_not, List.any_eq_false] at this
  obtain ⟨⟨⟨⟨h1, h2⟩, h3⟩, h4⟩, h5⟩ := this
  exact ⟨by omega, by omega, by omega, by omega, fun e he => ⟨by have := h5 e he; simp only [decide_eq_true_eq] at this; omega, hw.en e he⟩, hw.t, hw.g, hw.pk, hw.pc⟩
def nameB (s : ByteArray) : Bool := decide (1 ≤ s.size) && decide (s.size ≤ 64) && !hasSep s
def entAt (l : List Ent) (i : Nat) : Bool := nameB (gt l i).name && (decide ((gt l i).k = 1) || decide ((gt l i).k = 2)) && (decide (i = 0) || slt (gt l (i - 1)).name (gt l i).name)
def treeB (l : List Ent) : Bool := decide (l.length ≤ 32) && (List.range l.length).all (entAt l)
theorem tree_F1 {l : List Ent} (h : ¬ l.length ≤ 32) : treeB l = false := by rw [treeB, decide_eq_false h]; rfl
theorem tree_F2 {l : List Ent} {i : Nat} (hi : i < l.length) (h : entAt l i = false) : treeB l = false := by
  have : (List.range l.length).all (entAt l) = false := List.all_eq_false.2 ⟨i, List.mem_range.2 hi, by simp [h]⟩
  rw [treeB, this, Bool.and_false]
theorem tree_T {l : List Ent} (h : ∀ j, j < l.length → entAt l j = true) : treeB l = decide (l.length ≤ 32) := by
  have : (List.range l.length).all (entAt l) = true := List.all_eq_true.2 fun j hj => h j (List.mem_range.1 hj)
  rw [treeB, this, Bool.and_true]
/-- No two of them are the same. -/
def uniqB (l : List (Nat → Int)) : Bool := (List.range l.length).all fun i => (List.range i).all fun k => !sameN 32 (gt l i) (gt l k)
theorem uniq_F {l : List (Nat → Int)} {i k : Nat} (hi : i < l.length) (hk : k < i) (h : sameN 32 (gt l i) (gt l k) = true) : uniqB l = false :=
  List.all_eq_false.2 ⟨i, List.mem_range.2 hi, by
    have : ((List.range i).all fun k => !sameN 32 (gt l i) (gt l k)) = false := List.all_eq_false.2 ⟨k, List.mem_range.2 hk, by simp [h]⟩
    rw [this]; simp⟩
theorem uniq_T {l : List (Nat → Int)} (h : ∀ i k, i < l.length → k < i → sameN 32 (gt l i) (gt l k) = false) : uniqB l = true :=
  List.all_eq_true.2 fun i hi => List.all_eq_true.2 fun k hk => by rw [h i k (List.mem_range.1 hi) (List.mem_range.1 hk)]; rfl
theorem uniq_at {l : List (Nat → Int)} (h : uniqB l = true) {i k : Nat} (hi : i < l.length) (hk : k < i) : sameN 32 (gt l i) (gt l k) = false := by
  have := List.all_eq_true.1 (List.all_eq_true.1 h i (List.mem_range.2 hi)) k (List.mem_range.2 hk)
  simpa using this
def parsB (l : List (Nat → Int)) : Bool := decide (l.length ≤ 4) && uniqB l
def mayB (x : Ob) : Bool := if x.k = 1 then decide (x.data.length ≤ 1024) else if x.k = 2 then treeB x.ents else if x.k = 3 then parsB x.pars && decide (x.m.size ≤ 200) else if x.k = 4 then (decide (1 ≤ x.tg.k) && decide (x.tg.k ≤ 4)) && decide (x.m.size ≤ 200) else false
def zId : Nat → Int := fun _ => 0
def zLnk : Lnk := ⟨0, zId⟩
def bareOb (x : Ob) : Ob := if x.k = 1 then ⟨x.k, x.data, [], zId, [], zLnk, ⟨#[]⟩⟩ else if x.k = 2 then ⟨x.k, [], x.ents, zId, [], zLnk, ⟨#[]⟩⟩ else if x.k = 3 then ⟨x.k, [], [], x.t, x.pars, zLnk, x.m⟩ else ⟨x.k, [], [], zId, [], x.tg, x.m⟩
def obSame (a b : Ob) : Bool := decide (a.k = b.k) && (decide (a.data = b.data) && (sameGL same_ent a.ents b.ents && (sameN 32 a.t b.t && (sameIL a.pars b.pars && (same_lnk a.tg b.tg && decide (a.m = b.m))))))
def obOkB (x : Ob) : Bool := mayB x && obSame (bareOb x) x
def lnksL (x : Ob) : List Lnk := if x.k = 1 then [] else if x.k = 2 then x.ents.map (fun e => ⟨e.k, e.id⟩) else if x.k = 3 then ⟨2, x.t⟩ :: x.pars.map (fun p => ⟨3, p⟩) else if x.k = 4 then [x.tg] else []
def linksL (x : Ob) : List Lnk := if obOkB x then lnksL x else []
/-- The document's way. -/
def rLinks (x : Ob) : List Lnk := if obOkB x then x.ents.map (fun e => ⟨e.k, e.id⟩) ++ (if x.k = 3 then [⟨2, x.t⟩] else []) ++ x.pars.map (fun p => ⟨3, p⟩) ++ (if x.k = 4 then [x.tg] else []) else []
theorem sameN_self (f : Nat → Int) (n : Nat) : sameN n f f = true := by
  induction n with
  | zero => rfl
  | succ n ih => simp [sameN, ih]
theorem same_lnk_self (x : Lnk) : same_lnk x x = true := by simp [same_lnk, sameN_self]
theorem same_ent_self (x : Ent) : same_ent x x = true := by simp [same_ent, sameN_self]

end Go.Proofs.Ytjdjlcmajeikcaa
