import Derived.Test.YtaakjgmehbbgfaaGreatDoorCmp
import Derived.Test.YtaakjgmehbbgfaaGreatDoorMvE
import Derived.Test.YtaakjgmehbbgfaaGreatDoorSrt
namespace Go.Proofs.YtaakjgmehbbgfaaGreatDoor
open Go Go.Mv
set_option maxRecDepth 8000
def recC (r : Rec) : List Value := (recV r).cells.toList
theorem recC_len (r : Rec) : (recC r).length = 52 := rfl
theorem recC_one (r : Rec) : ∀ v ∈ recC r, v.oneCell' = true := List.all_eq_true.1 (show (recC r).all (fun v => v.oneCell') = true from rfl)
theorem recC_agg (r : Rec) : Value.agg (recC r).toArray = recV r := rfl
theorem elRec : ElI Tryz.prog 40 52 136 (recV ⟨0, 0, fun _ => 0, ⟨#[]⟩, false, fun _ => 0⟩) := by unfold ElI; kernel_rfl

theorem c_cloneR (H : Mem) (xv : Value) (ys : List Rec) (w : World) (hH : Hp H w) (hb : Rdx 52 recC H xv ys) (hlen : ys.length ≤ 1000000) : Calls Tryz.prog 42 #[xv] w (Ret w [] fun v H1 => ∃ st, BldOk 52 recC ys st ∧ v = bldVx ys st ∧ H1 = bldMx 40 recC ys st) := by
  rcases hb with ⟨rfl, rfl⟩ | ⟨b, off, cap, rfl, hcap, hcell⟩
  · refine fn_enter (args := [_]) Tryz.func42 rfl Tryz.ntmps42 rfl hH ?_
    refine pn_seq ?_
    refine pn_plain [] rfl ?_
    refine TE_q rfl rfl (RD.assign rfl) rfl ?_
    refine TE_nil0 ?_
    refine pn_seq ?_
    refine pn_seq ?_
    refine pn_plain [] rfl ?_
    refine TE_q rfl rfl (RD.move rfl) rfl ?_
    refine TE_q rfl rfl (RD.sl_eql_nil Tryz.runUnderlying22 rfl rfl) rfl ?_
    refine TE_nil0 ?_
    refine pn_condT rfl ?_
    refine pn_seq ?_
    refine pn_plain [] rfl ?_
    refine TE_q rfl rfl (RD.assign rfl) rfl ?_
    refine TE_nil0 ?_
    refine pn_ret ?_
    exact pn_done (H1 := []) rfl rfl ⟨none, rfl, rfl, rfl⟩ (List.nil_sublist _) (by simp)
  · have hb : Rdx 52 recC H (.slice (some ⟨b, off, none⟩) ys.length cap) ys := .inr ⟨b, off, cap, rfl, hcap, hcell⟩
    refine fn_enter (args := [_]) Tryz.func42 rfl Tryz.ntmps42 rfl hH ?_
    refine pn_seq ?_
    refine pn_plain [] rfl ?_
    refine TE_q rfl rfl (RD.assign rfl) rfl ?_
    refine TE_nil0 ?_
    refine pn_seq ?_
    refine pn_seq ?_
    refine pn_plain [] rfl ?_
    refine TE_q rfl rfl (RD.move rfl) rfl ?_
    refine TE_q rfl rfl (RD.sl_eql_nil Tryz.runUnderlying22 rfl rfl) rfl ?_
    refine TE_nil0 ?_
    refine pn_condF rfl ?_
    refine pn_skip ?_
    refine pn_seq ?_
    refine pn_plain [] rfl ?_
    refine TE_buildSlice0 rfl Tryz.runUnderlying22 Tryz.sizeOf40 trivial rfl fun b5 hb5 => ?_
    refine TE_q rfl rfl (RD.move rfl) rfl ?_
    refine TE_appendX (st := some (b5, 0, [])) (l := []) H recC_len recC_one rfl rfl rfl rfl trivial rfl Tryz.underlying22 elRec rfl rfl rfl ⟨Nat.le_refl _, by decide, rfl⟩ hb (fun _ hw => hw.sp (fun a => by simp -failIfUnchanged <;> omega)) (by simp; omega) rfl (bldx_all (fun k => w.heap.size ≤ k ∨ k ∈ []) (by rintro b cap tl ⟨⟩; exact .inl hb5)) ?_
    intro st hok hX _
    refine TE_q rfl rfl (RD.assign rfl) rfl ?_
    refine TE_nil0 ?_
    refine pn_ret ?_
    exact pn_done rfl rfl ⟨st, hok, rfl, rfl⟩ (List.sublist_append_left _ _) (fun e he => (hX e he).symm)

theorem cmpI_lt {x y : Int} : Lib.compareInt x y < 0 ↔ x < y := by
  unfold Lib.compareInt; split
  · rename_i h; simp [h]
  · rename_i h; split <;> simp [h]
theorem cmpI_0 {x y : Int} : Lib.compareInt x y = 0 ↔ x = y := by
  unfold Lib.compareInt; split
  · rename_i h; simp; omega
  · split
    · rename_i h; simp; omega
    · simp; omega
theorem orI2 (x y : Int) : orI [x, y] < 0 ↔ x < 0 ∨ (x = 0 ∧ y < 0) := by
  simp only [orI]
  split
  · rename_i h; subst h
    split
    · rename_i h; subst h; simp
    · simp
  · rename_i h; simp [h]
theorem dotCmp_lt {s c s' c' : Int} : dotCmp s c s' c' < 0 ↔ s < s' ∨ (s = s' ∧ c < c') := by
  unfold dotCmp; rw [orI2, cmpI_lt, cmpI_0, cmpI_lt]
theorem zeroR_ok : RecOk ⟨0, 0, fun _ => 0, ⟨#[]⟩, false, fun _ => 0⟩ := ⟨by simp [i64Ok], by simp [i64Ok], fun _ => by simp, fun _ => by simp⟩
def dotK (r : Rec) : Int × Int := (r.s, r.c)
/-- The dots that were met. -/
def MetOk (ds : List (Int × Int)) (l : List (ME (Int × Int) Int)) : Prop := ∀ k, mget k l = if k ∈ ds then some 1 else none
theorem MetOk.nil : MetOk [] [] := fun k => by simp [mget, mpos]
theorem MetOk.get {ds : List (Int × Int)} {l : List (ME (Int × Int) Int)} (h : MetOk ds l) (k : Int × Int) : (mget k l).getD 0 = if k ∈ ds then 1 else 0 := by
  rw [h k]; split <;> rfl
theorem MetOk.put {ds : List (Int × Int)} {l : List (ME (Int × Int) Int)} {c : Nat} (h : MetOk ds l) {k : Int × Int} (hk : k ∉ ds) : MetOk (ds ++ [k]) (mput k ((mget k l).getD 0 + 1) l c).1 := fun k' => by
  rw [mget_put, h.get, if_neg hk]
  by_cases h' : k' = k
  · subst h'; simp
  · rw [if_neg h', h k']; simp [h']

end Go.Proofs.YtaakjgmehbbgfaaGreatDoor
