import Derived.Test.YtaakjgmehbbgfaaGreatDoorRc2
namespace Go.Proofs.YtaakjgmehbbgfaaGreatDoor
open Go Go.Mv
set_option maxRecDepth 8000
/-- Two records whose cells are the same. -/
structure SameR (a b : Rec) : Prop where
  s : a.s = b.s
  c : a.c = b.c
  ctx : ∀ i, i < 16 → a.ctx i = b.ctx i
  ref : a.ref = b.ref
  has : a.has = b.has
  tip : ∀ i, i < 32 → a.tip i = b.tip i
theorem sameN_congr {a b c : Nat → Int} (n : Nat) (h : ∀ i, i < n → a i = b i) : sameN n a c = sameN n b c := by
  apply Bool.eq_iff_iff.2
  rw [sameN_iff, sameN_iff]
  exact ⟨fun k i hi => (h i hi).symm.trans (k i hi), fun k i hi => (h i hi).trans (k i hi)⟩
theorem SameR.ok {a b : Rec} (h : SameR a b) : recOkB a = recOkB b := by
  simp only [recOkB]
  rw [show tip0 a = tip0 b from sameN_congr 32 h.tip, h.s, h.c, h.ref, h.has]
  cases hd : dotOk b.s b.c with
  | false => rfl
  | true =>
    have := dotOk_iff.1 hd
    rw [h.ctx b.s.toNat (by omega)]
/-- Are two records the same? -/
def sameRB (x y : Rec) : Bool := (decide (x.s = y.s) && decide (x.c = y.c)) && (sameN 16 x.ctx y.ctx && (decide (x.ref = y.ref) && ((x.has == y.has) && (sameN 32 x.tip y.tip && true))))
theorem sameRB_self (x : Rec) : sameRB x x = true := by
  have h1 : sameN 16 x.ctx x.ctx = true := sameN_iff.2 fun _ _ => rfl
  have h2 : sameN 32 x.tip x.tip = true := sameN_iff.2 fun _ _ => rfl
  simp [sameRB, h1, h2]
theorem eqIn_string {P : Program} {T : TypeId} {w : World} {d : Nat} {a b : ByteArray} (hT : P.underlying T = some .string) : (Op.equalIn (d + 1) T (.string a) (.string b)).run P w = .ok (decide (a = b)) w := by
  rw [run_equalIn_string w d T a b hT, string_beq]
theorem eq_dotd (d : Nat) (s c s' c' : Int) (w : World) : (Op.equalIn (d + 2) 33 (.agg #[.int .i64 s, .int .i64 c]) (.agg #[.int .i64 s', .int .i64 c'])).run Tryz.prog w = .ok (decide (s = s') && decide (c = c')) w := by
  refine eqF_of (d := d + 1) Tryz.underlying33 Tryz.stoodInHeld33 ?_
  refine eqF_cons (a := .int .i64 s) (b := .int .i64 s') (r := decide (s = s')) (s := decide (c = c')) rfl (by simp [part, Tryz.isAgg3]) (by simp [part, Tryz.isAgg3]) (by rw [run_equalIn_int w d _ .i64 .i64 s s' Tryz.underlying3]; rfl) ?_
  refine (eqF_cons (a := .int .i64 c) (b := .int .i64 c') (r := decide (c = c')) (s := true) rfl (by simp [part, Tryz.isAgg3]) (by simp [part, Tryz.isAgg3]) (by rw [run_equalIn_int w d _ .i64 .i64 c c' Tryz.underlying3]; rfl) eqF_nil).trans (by rw [Bool.and_true])
theorem info_u32 : Tryz.prog.info? 34 = some Tryz.t34 := by kernel_rfl
theorem cells_u32 : Tryz.prog.cellsOf 34 = 1 := by kernel_rfl
theorem eq_rec (x y : Rec) (w : World) : (Op.equalIn 10000 40 (.agg (recV x).cells) (.agg (recV y).cells)).run Tryz.prog w = .ok (sameRB x y) w := by
  refine eqF_of (d := 9999) Tryz.underlying40 Tryz.stoodInHeld40 ?_
  refine eqF_cons (a := dotV x.s x.c) (b := dotV y.s y.c) rfl (by simp [part, Tryz.isAgg33, Tryz.sizeOf33, recV, dotV, Value.cells]) (by simp [part, Tryz.isAgg33, Tryz.sizeOf33, recV, dotV, Value.cells]) (eq_dotd 9997 _ _ _ _ w) ?_
  refine eqF_cons (a := vecV x.ctx) (b := vecV y.ctx) rfl (by simp [part, Tryz.isAgg36, Tryz.sizeOf36, recV, vecV, Value.cells]) (by simp [part, Tryz.isAgg36, Tryz.sizeOf36, recV, vecV, Value.cells]) (eqIn_ints (d := 9997) (k := .u32) (n := 16) Tryz.underlying36 info_u32 Tryz.underlying34 Tryz.isAgg34 cells_u32 (fun i hi => ⟨vec_at _ hi, vec_at _ hi⟩) w) ?_
  refine eqF_cons (a := .string x.ref) (b := .string y.ref) rfl (by simp [part, Tryz.isAgg9, recV, Value.cells]) (by simp [part, Tryz.isAgg9, recV, Value.cells]) (eqIn_string Tryz.underlying9) ?_
  refine eqF_cons (a := .bool x.has) (b := .bool y.has) rfl (by simp [part, Tryz.isAgg4, recV, Value.cells]) (by simp [part, Tryz.isAgg4, recV, Value.cells]) (eqIn_bool Tryz.runUnderlying4) ?_
  refine eqF_cons (a := idV x.tip) (b := idV y.tip) rfl (by simp [part, Tryz.isAgg38, Tryz.sizeOf38, recV, idV, Value.cells]) (by simp [part, Tryz.isAgg38, Tryz.sizeOf38, recV, idV, Value.cells]) (eqIn_ints (d := 9997) (k := .u8) (n := 32) Tryz.underlying38 info_u8 Tryz.underlying5 Tryz.isAgg5 cells_u8 (fun i hi => ⟨id_at _ hi, id_at _ hi⟩) w) eqF_nil

end Go.Proofs.YtaakjgmehbbgfaaGreatDoor
