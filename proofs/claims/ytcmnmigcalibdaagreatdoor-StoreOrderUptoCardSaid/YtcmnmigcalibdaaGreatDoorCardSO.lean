import Derived.Test.YtcmnmigcalibdaaGreatDoorGbc
import Derived.Test.YtcmnmigcalibdaaGreatDoorGbb
import Derived.Test.YtcmnmigcalibdaaGreatDoorCards
import Derived.Test.YtcmnmigcalibdaaGreatDoorTie
namespace Go.Proofs.YtcmnmigcalibdaaGreatDoor.StOrder
open Go Go.Mv Go.ChangeShapes Go.WideShapes Go.ChangeAt Go.RowKit
set_option maxRecDepth 100000
theorem own : ownKnob Tryz.prog.godebug = none := by kernel_rfl
theorem laidOut : laidOutB Tryz.prog = true := by kernel_rfl

theorem contract (H : Type) (enc : TypeId × Value → H) (W : World) (base : Nat) (args : Array Value) (ds gs : List (DataW H)) (before : List MemPlace)
    (hval : ∀ (j : Nat) t v, Tryz.f3.params[j]? = some t → args[j]? = some v → Value.okWide Tryz.prog W .any base t v)
    (hW : DataW.Whole enc Tryz.prog Tryz.f3.params.toList Rows.storeOrderSpec.vars false W args.toList ds gs before) (hL : laidMetH Tryz.prog Rows.storeOrderUptoRow.laid W) (hsh : W.ShapedOpen Tryz.prog) (hk : Rows.uptoSmall H (ds ++ gs) = true) :
    Calls Tryz.prog 3 args W fun e W' => ∃ v, e = .returned v ∧ Rows.storeOrderSpec.post enc Tryz.prog Tryz.f3 false true false false W args v W' := by
  have hW' := hW
  obtain ⟨p, q, hA0, hV, rfl, hfz, hnd⟩ := hW
  have hA : DataW.TrodAll enc Tryz.prog W 0 (fun _ => true) true Tryz.f3.params.toList args.toList ds p := hA0
  rw [Tryz.params3] at hA hval
  obtain ⟨v0, vs0, d0, ds0, p0, q0, hargs, rfl, rfl, h0, r0⟩ := trodAll_cons hA
  obtain ⟨rfl, rfl, rfl⟩ := trodAll_nil r0
  obtain rfl : args = #[v0] := by cases args; simp_all
  obtain ⟨rfl, rfl⟩ := trodVars_none hV
  have hG := laid_hash hsh (show laidMetH Tryz.prog [("marshes/hash.begin", Rows.laid_marshes_hash_begin), ("marshes/hash.factors", Rows.laid_marshes_hash_factors)] W from hL)
  obtain ⟨Hl, l, hHl, hlb, hlk, hll⟩ := open_ops (hval 0 22 v0 rfl rfl) h0 _ hG
  have hc0 : v0.cells.toList = [v0] := by obtain ⟨a0, l0, c0, e0⟩ := WideShapes.okWide_slice Tryz.underlying22 (hval 0 22 v0 rfl rfl); rw [e0]; rfl
  have htx : (textsB l).length ≤ 4000000 := by obtain ⟨nn, h7⟩ := h0; rw [hc0] at h7; have h9 := bulk_bound hk; have h8 := bulk_ops h7 hlb hlk hHl; simp only [List.append_nil, Rows.uptoBulkAll] at h9; omega
  have hlt : ∀ x ∈ p0 ++ ([]), x.block < W.heap.size := fun x hx => hW'.lt x (List.mem_append_left _ hx)
  refine (c_StoreOrder v0 l Hl W (hlb.mono (fun _ hw => hw.sp (fun a => by simp -failIfUnchanged <;> omega))) (fun x hx => ⟨(hlk x hx).1.mono (fun _ hw => hw.sp (fun a => by simp -failIfUnchanged <;> omega)), (hlk x hx).2.mono (fun _ hw => hw.sp (fun a => by simp -failIfUnchanged <;> omega))⟩) hll htx (hHl.sp (fun a => by simp -failIfUnchanged <;> omega))).mono fun e W' hend => ?_
  obtain ⟨v, H1, rfl, ⟨rfl, rfl⟩, hfr, -, -⟩ := hend
  have hbel := hfr.below
  have again : ∀ sp : Nat → Bool, (∀ x ∈ p0 ++ ([]), sp x.block = true) → DataW.TrodAll enc Tryz.prog W' 0 sp true [22] [v0] [d0] (p0 ++ ([])) := fun sp hsp =>
    trodAll_cons_mk (WideElems.Trod_stays laidOut (by kernel_rfl) (of_decide_eq_true (by kernel_rfl)) h0 (fun x hx => hbel.same (hlt x (by simp [hx]))) (fun x hx => hsp x (by simp [hx]))) (trodAll_mk0)
  refine ⟨_, rfl, _, _, _, [], p0 ++ ([]), [], hW', ?_, ?_, ?_, hbel.frame _, fun h => by cases h⟩
  · exact trodAll_mk1 (shut_bool Tryz.underlying4 true)
  · exact again _ (fun x hx => by simpa using hlt x hx)
  · rfl

/-- A world for the witness: the settled one, the two tables as their text lays them. -/
def layAt (h : Array Obj) (i : Nat) (cs : Array Value) : Array Obj := h.modify i fun
  | .cells _ t frozen => .cells cs t frozen
  | o => o
noncomputable def laidWorld (os : Os) : World :=
  { World.holding Tryz.prog os ⟨#[], #[], []⟩ with heap := layAt (layAt (World.holding Tryz.prog os ⟨#[], #[], []⟩).heap 0 (beginZ.map fun z => Value.int .u32 z).toArray) 1 (factorsZ.map fun z => Value.int .u32 z).toArray }
theorem laid_met (os : Os) : laidMet Tryz.prog Rows.storeOrderUptoRow.laid ((laidWorld os).forCall (fun _ _ => 0) ⟨#[], #[.slice none 0 0], []⟩).memory :=
  laidMet_of_run' 8 (by kernel_rfl) (by kernel_rfl)
theorem reads (os : Os) {H : Type} (enc : TypeId × Value → H) : ∃ places, DataW.whole enc Tryz.prog ((laidWorld os).forCall (fun _ _ => 0) ⟨#[], #[.slice none 0 0], []⟩).memory Tryz.f3.params.toList Rows.storeOrderSpec.vars false #[.slice none 0 0].toList 8 = some ([.nil], [], places) :=
  ⟨[], by kernel_rfl⟩

theorem lifted (os : Os) (started : os.Started) (H : Type) (enc : TypeId × Value → H) (F : Stop.Interp) :
    ReturnsInHanded {} Tryz.checked os 3 .any ((Rows.OpenSpec.upto Rows.storeOrderSpec).preRow enc Tryz.prog Tryz.f3 Rows.storeOrderUptoRow.domain false Rows.storeOrderUptoRow.laid) (((Rows.OpenSpec.upto Rows.storeOrderSpec).at F).post enc Tryz.prog Tryz.f3 false true false false) := by
  obtain ⟨places, hx⟩ := reads os enc
  refine returnsInHanded_of_row (C := Tryz.checked) (s := Rows.OpenSpec.upto Rows.storeOrderSpec) own started (by kernel_rfl) Tryz.func3
    (witness_row_at (enc := enc) (C := Tryz.checked) false (laidWorld os) #[.slice none 0 0] rfl (by kernel_rfl) (by kernel_rfl) (by kernel_rfl)
      (OpenSpec.preRow_of_cond 8 hx (by kernel_rfl) (fun k hk => by cases hk; kernel_rfl) (by kernel_rfl) (laid_met os))) ?_
  intro W base args ds gs before hval hW _ hcond _ hL hsh _
  exact contract H enc W base args ds gs before hval hW hL hsh (hcond _ rfl)

theorem closed : joinedFacts Tryz.pinned.checked.prog 3 Tryz.f3 (Rows.OpenSpec.upto Rows.storeOrderSpec).bare Rows.storeOrderUptoRow = true := by
  unfold joinedFacts
  rw [kinPlace, kunfollowed, krecurses, knamed, klifts, kmake, kenter, kheard]
  kernel_rfl
theorem said : Rows.StoreOrderUptoSaid :=
  OpenClaim.holds_of_cond 3 Tryz.f3 rfl rfl rfl rfl rfl rfl rfl ⟨rfl, rfl, rfl, rfl, rfl⟩ rfl rfl rfl rfl rfl (by kernel_rfl) Tryz.func3 closed
    (of_decide_eq_true (by kernel_rfl)) (by unfold Func.isWrapper; first | (rw [if_pos (by decide +kernel)]; kernel_rfl) | (rw [if_neg (by decide +kernel)]; exact ⟨rfl, rfl⟩))
    (fun os started H enc _ F => by rw [OpenClaim.pre_eq_preRow]; exact lifted os started H enc F)

theorem plain (f : FuncId) (fn : Func) (hf : Tryz.pinned.checked.prog.funcNamed "marshes/marsheslaw08.StoreOrder" = some f) (hfn : Tryz.pinned.checked.prog.funcs[f]? = some fn) :
    true = Tryz.pinned.checked.prog.looks [] ∧ ∀ (j : Nat) t, fn.params[j]? = some t → Tryz.pinned.checked.prog.wantsStandIn t = false := by
  obtain rfl : f = 3 := Option.some.inj ((show Tryz.prog.funcNamed "marshes/marsheslaw08.StoreOrder" = some 3 by kernel_rfl).symm.trans hf) |>.symm
  obtain rfl : fn = Tryz.f3 := (Option.some.inj (Tryz.func3.symm.trans hfn)).symm
  refine ⟨by kernel_rfl, fun j t ht => ?_⟩
  rw [Tryz.params3] at ht
  have := Array.mem_of_getElem? ht
  simp only [List.mem_toArray, List.mem_cons, List.not_mem_nil, or_false] at this
  subst this
  · exact (show Tryz.prog.wantsStandIn 22 = false by kernel_rfl)

theorem card : Rows.StoreOrderUptoCardSaid :=
  Claim7.holds_tied_plain_at .later [] _ _ _ _ said (fun _ h => by cases h) (by kernel_rfl) (fun _ h => by cases h) storeOrderUpto_row_tie rfl ⟨rfl, rfl⟩ (by kernel_rfl) rfl plain kgoes
end Go.Proofs.YtcmnmigcalibdaaGreatDoor.StOrder
