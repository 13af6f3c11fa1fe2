import Derived.Test.YthagkkmbbncclaaDoorRc2
namespace Go.Proofs.YthagkkmbbncclaaDoor
open Go Go.Mv
set_option maxRecDepth 8000
/-- Two records whose cells are the same. -/
structure SameR (a b : Rec) : Prop where
  s : a.s = b.s
  c : a.c = b.c
  ctx : ∀ i, i < 16 → a.ctx i = b.ctx i
  ref : a.ref = b.ref
  has : a.has = b.has
  tip : ∀ i, i < 32 → a.tip i = b.tip i
theorem SameR.recV {a b : Rec} (h : SameR a b) : recV a = recV b := by
  obtain ⟨h1, h2, h3, h4, h5, h6⟩ := h
  simp only [Go.Mv.recV, h1, h2, h4, h5, h3 _ (show 0 < 16 by decide), h3 _ (show 1 < 16 by decide), h3 _ (show 2 < 16 by decide), h3 _ (show 3 < 16 by decide), h3 _ (show 4 < 16 by decide), h3 _ (show 5 < 16 by decide), h3 _ (show 6 < 16 by decide), h3 _ (show 7 < 16 by decide), h3 _ (show 8 < 16 by decide), h3 _ (show 9 < 16 by decide), h3 _ (show 10 < 16 by decide), h3 _ (show 11 < 16 by decide), h3 _ (show 12 < 16 by decide), h3 _ (show 13 < 16 by decide), h3 _ (show 14 < 16 by decide), h3 _ (show 15 < 16 by decide),
    h6 _ (show 0 < 32 by decide), h6 _ (show 1 < 32 by decide), h6 _ (show 2 < 32 by decide), h6 _ (show 3 < 32 by decide), h6 _ (show 4 < 32 by decide), h6 _ (show 5 < 32 by decide), h6 _ (show 6 < 32 by decide), h6 _ (show 7 < 32 by decide), h6 _ (show 8 < 32 by decide), h6 _ (show 9 < 32 by decide), h6 _ (show 10 < 32 by decide), h6 _ (show 11 < 32 by decide), h6 _ (show 12 < 32 by decide), h6 _ (show 13 < 32 by decide), h6 _ (show 14 < 32 by decide), h6 _ (show 15 < 32 by decide), h6 _ (show 16 < 32 by decide), h6 _ (show 17 < 32 by decide), h6 _ (show 18 < 32 by decide), h6 _ (show 19 < 32 by decide), h6 _ (show 20 < 32 by decide), h6 _ (show 21 < 32 by decide), h6 _ (show 22 < 32 by decide), h6 _ (show 23 < 32 by decide), h6 _ (show 24 < 32 by decide), h6 _ (show 25 < 32 by decide), h6 _ (show 26 < 32 by decide), h6 _ (show 27 < 32 by decide), h6 _ (show 28 < 32 by decide), h6 _ (show 29 < 32 by decide), h6 _ (show 30 < 32 by decide), h6 _ (show 31 < 32 by decide)]
theorem sameN_congr {a b c : Nat → Int} (n : Nat) (h : ∀ i, i < n → a i = b i) : sameN n a c = sameN n b c := by
  apply Bool.eq_iff_iff.2
  rw [sameN_iff, sameN_iff]
  exact ⟨fun k i hi => (h i hi).symm.trans (k i hi), fun k i hi => (h i hi).trans (k i hi)⟩
theorem SameR.ok {a b : Rec} (h : SameR a b) : recOkB a = recOkB b := by
  simp only [recOkB]
  rw [show tip0 a = tip0 b from sameN_congr 32 h.tip, h.s, h.c, h.ref, h.has]
  cases hd : dotOk b.s b.c with
  | false => rfl
  | true =>
    have := dotOk_iff.1 hd
    rw [h.ctx b.s.toNat (by omega)]
/-- Are two records the same? -/
def sameRB (x y : Rec) : Bool := (decide (x.s = y.s) && decide (x.c = y.c)) && (sameN 16 x.ctx y.ctx && (decide (x.ref = y.ref) && ((x.has == y.has) && (sameN 32 x.tip y.tip && true))))
theorem sameRB_self (x : Rec) : sameRB x x = true := by
  have h1 : sameN 16 x.ctx x.ctx = true := sameN_iff.2 fun _ _ => rfl
  have h2 : sameN 32 x.tip x.tip = true := sameN_iff.2 fun _ _ => rfl
  simp [sameRB, h1, h2]
theorem sameRB_iff {x y : Rec} : sameRB x y = true ↔ SameR x y := by
  simp only [sameRB, Bool.and_eq_true, decide_eq_true_eq, beq_iff_eq, sameN_iff, and_true]
  exact ⟨fun ⟨⟨a, b⟩, c, d, e, f⟩ => ⟨a, b, c, d, e, f⟩, fun ⟨a, b, c, d, e, f⟩ => ⟨⟨a, b⟩, c, d, e, f⟩⟩
theorem eqIn_string {P : Program} {T : TypeId} {w : World} {d : Nat} {a b : ByteArray} (hT : P.underlying T = some .string) : (Op.equalIn (d + 1) T (.string a) (.string b)).run P w = .ok (decide (a = b)) w := by
  rw [run_equalIn_string w d T a b hT, string_beq]
theorem eq_dotd (d : Nat) (s c s' c' : Int) (w : World) : (Op.equalIn (d + 2) 23 (.agg #[.int .i64 s, .int .i64 c]) (.agg #[.int .i64 s', .int .i64 c'])).run Tryd.prog w = .ok (decide (s = s') && decide (c = c')) w := by
  refine eqF_of (d := d + 1) Tryd.underlying23 Tryd.stoodInHeld23 ?_
  refine eqF_cons (a := .int .i64 s) (b := .int .i64 s') (r := decide (s = s')) (s := decide (c = c')) rfl (by simp [part, Tryd.isAgg3]) (by simp [part, Tryd.isAgg3]) (by rw [run_equalIn_int w d _ .i64 .i64 s s' Tryd.underlying3]; rfl) ?_
  refine (eqF_cons (a := .int .i64 c) (b := .int .i64 c') (r := decide (c = c')) (s := true) rfl (by simp [part, Tryd.isAgg3]) (by simp [part, Tryd.isAgg3]) (by rw [run_equalIn_int w d _ .i64 .i64 c c' Tryd.underlying3]; rfl) eqF_nil).trans (by rw [Bool.and_true])
theorem info_u32 : Tryd.prog.info? 24 = some Tryd.t24 := by kernel_rfl
theorem cells_u32 : Tryd.prog.cellsOf 24 = 1 := by kernel_rfl
theorem eq_rec (x y : Rec) (w : World) : (Op.equalIn 10000 30 (.agg (recV x).cells) (.agg (recV y).cells)).run Tryd.prog w = .ok (sameRB x y) w := by
  refine eqF_of (d := 9999) Tryd.underlying30 Tryd.stoodInHeld30 ?_
  refine eqF_cons (a := dotV x.s x.c) (b := dotV y.s y.c) rfl (by simp [part, Tryd.isAgg23, Tryd.sizeOf23, recV, dotV, Value.cells]) (by simp [part, Tryd.isAgg23, Tryd.sizeOf23, recV, dotV, Value.cells]) (eq_dotd 9997 _ _ _ _ w) ?_
  refine eqF_cons (a := vecV x.ctx) (b := vecV y.ctx) rfl (by simp [part, Tryd.isAgg26, Tryd.sizeOf26, recV, vecV, Value.cells]) (by simp [part, Tryd.isAgg26, Tryd.sizeOf26, recV, vecV, Value.cells]) (eqIn_ints (d := 9997) (k := .u32) (n := 16) Tryd.underlying26 info_u32 Tryd.underlying24 Tryd.isAgg24 cells_u32 (fun i hi => ⟨vec_at _ hi, vec_at _ hi⟩) w) ?_
  refine eqF_cons (a := .string x.ref) (b := .string y.ref) rfl (by simp [part, Tryd.isAgg9, recV, Value.cells]) (by simp [part, Tryd.isAgg9, recV, Value.cells]) (eqIn_string Tryd.underlying9) ?_
  refine eqF_cons (a := .bool x.has) (b := .bool y.has) rfl (by simp [part, Tryd.isAgg4, recV, Value.cells]) (by simp [part, Tryd.isAgg4, recV, Value.cells]) (eqIn_bool Tryd.runUnderlying4) ?_
  refine eqF_cons (a := idV x.tip) (b := idV y.tip) rfl (by simp [part, Tryd.isAgg28, Tryd.sizeOf28, recV, idV, Value.cells]) (by simp [part, Tryd.isAgg28, Tryd.sizeOf28, recV, idV, Value.cells]) (eqIn_ints (d := 9997) (k := .u8) (n := 32) Tryd.underlying28 info_u8 Tryd.underlying5 Tryd.isAgg5 cells_u8 (fun i hi => ⟨id_at _ hi, id_at _ hi⟩) w) eqF_nil

end Go.Proofs.YthagkkmbbncclaaDoor
