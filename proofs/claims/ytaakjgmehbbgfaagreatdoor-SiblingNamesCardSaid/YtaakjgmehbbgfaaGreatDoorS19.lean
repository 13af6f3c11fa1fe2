import Derived.Test.YtaakjgmehbbgfaaGreatDoorCdc
namespace Go.Proofs.YtaakjgmehbbgfaaGreatDoor
open Go Go.Mv
set_option maxRecDepth 8000
def ctxOf (l : List Int) : Nat → Int := fun i => if i < l.length then l.getD i 0 else 0
def ofR (site tip : Int) (l : List Int) : Rec := ⟨site, ctxOf l site.toNat + 1, ctxOf l, ⟨#[97]⟩, decide (0 < tip), fun i => if i = 0 then tip else 0⟩
theorem ctxOf_ok {l : List Int} (h : ∀ x ∈ l, 0 ≤ x ∧ x ≤ 4294967295) : VecOk (ctxOf l) := fun i => by
  unfold ctxOf; split
  · rename_i hi; rw [List.getD_eq_getElem?_getD, List.getElem?_eq_getElem hi]; exact h _ (List.getElem_mem hi)
  · omega

theorem c_of19 (site : Int) (tip : Int) (ctxv : Value) (ctx : List Int) (HX : Mem) (w : World) (hsite : 0 ≤ site ∧ site < 16) (hbctx : Rdx 1 (enI .u32) HX ctxv ctx) (hlctx : ctx.length ≤ 16) (hvc : VecOk (ctxOf ctx)) (hH : Hp HX w) : Calls Tryz.prog 22 #[.int .i64 site, .int .u8 tip, ctxv] w (Ret w [] fun v H1 => v = recV (ofR site tip ctx) ∧ H1 = []) := by
  have hvs := hvc site.toNat
  refine fn_enter (args := [_, _, _]) Tryz.func22 rfl Tryz.ntmps22 rfl hH ?_
  refine pn_seq ?_
  refine pn_plain [] rfl ?_
  refine TE_allocC (recV recZ).cells rfl Tryz.zeroValue40 rfl trivial rfl fun b6 hb6 => ?_
  refine TE_nil0 ?_
  refine pn_seq ?_
  refine pn_plain [] rfl ?_
  refine TE_q rfl rfl (RD.move rfl) rfl ?_
  refine TE_q rfl rfl (RD.gtr rfl rfl) rfl ?_
  refine TE_q rfl rfl (RD.build (v := recV (⟨0, 0, (fun _ => 0), ⟨#[97]⟩, (decide (0 < tip)), (fun _ => 0)⟩ : Rec)) rfl (bd_rec23 _ _)) rfl ?_
  refine TE_allocC (recV recZ).cells rfl Tryz.zeroValue40 rfl trivial rfl fun b7 hb7 => ?_
  refine TE_putCW 0 (recV recZ).cells (recV (⟨0, 0, (fun _ => 0), ⟨#[97]⟩, (decide (0 < tip)), (fun _ => 0)⟩ : Rec)).cells ((b7, .cells (recV (⟨0, 0, (fun _ => 0), ⟨#[97]⟩, (decide (0 < tip)), (fun _ => 0)⟩ : Rec)).cells 40 (0, 0)) :: (b6, .cells (recV recZ).cells 40 (0, 0)) :: HX) rfl Tryz.sizeOf40 trivial rfl rfl rfl rfl rfl rfl rfl rfl (.inl hb7) ?_
  refine TE_nil0 ?_
  refine pn_seq ?_
  refine pn_plain [] rfl ?_
  refine TE_q rfl rfl (RD.move rfl) rfl ?_
  refine TE_q rfl rfl (RD.fieldAddr (o := 20) Tryz.runUnderlying40 rfl rfl Tryz.sizeOf38 rfl) rfl ?_
  refine TE_q rfl rfl (RD.as (v := .pointer (some ⟨b7, 20, none⟩)) (RD.indexAddrA Tryz.runUnderlying38 Tryz.sizeOf5 rfl rfl (by decide) (by decide)) rfl) rfl ?_
  refine TE_storeC 0 (recV (⟨0, 0, (fun _ => 0), ⟨#[97]⟩, (decide (0 < tip)), (fun _ => 0)⟩ : Rec)).cells (recV (⟨0, 0, (fun _ => 0), ⟨#[97]⟩, (decide (0 < tip)), (fun i => if i = 0 then tip else (fun _ => 0) i)⟩ : Rec)).cells ((b7, .cells (recV (⟨0, 0, (fun _ => 0), ⟨#[97]⟩, (decide (0 < tip)), (fun i => if i = 0 then tip else (fun _ => 0) i)⟩ : Rec)).cells 40 (0, 0)) :: (b6, .cells (recV recZ).cells 40 (0, 0)) :: HX) rfl Tryz.sizeOf5 trivial rfl rfl rfl rfl rfl rfl (put_rec_t0 _ _) rfl (.inl hb7) ?_
  refine TE_nil0 ?_
  refine pn_seq ?_
  refine pn_plain [] rfl ?_
  refine TE_q rfl rfl (RD.fieldAddr (o := 2) Tryz.runUnderlying40 rfl rfl Tryz.sizeOf36 rfl) rfl ?_
  refine TE_q rfl rfl (RD.sliceA Tryz.runUnderlying36 Tryz.sizeOf34 rfl rfl (Nat.le_refl _)) rfl ?_
  refine TE_q rfl rfl (RD.move rfl) rfl ?_
  refine TE_copyR 0 ctx (recV (⟨0, 0, (fun _ => 0), ⟨#[97]⟩, (decide (0 < tip)), (fun i => if i = 0 then tip else (fun _ => 0) i)⟩ : Rec)).cells (recV (⟨0, 0, (ctxOf ctx), ⟨#[97]⟩, (decide (0 < tip)), (fun i => if i = 0 then tip else (fun _ => 0) i)⟩ : Rec)).cells ((b7, .cells (recV (⟨0, 0, (ctxOf ctx), ⟨#[97]⟩, (decide (0 < tip)), (fun i => if i = 0 then tip else (fun _ => 0) i)⟩ : Rec)).cells 40 (0, 0)) :: (b6, .cells (recV recZ).cells 40 (0, 0)) :: HX) rfl rfl trivial rfl Tryz.underlying99 Tryz.sizeOf34 elU32 (enI_len .u32) (enI_one .u32) rfl rfl hbctx (fun _ hw => hw.sp (fun a => by simp -failIfUnchanged <;> omega)) hlctx rfl (by show 2 + ctx.length ≤ 52; omega) (.inl hb7) (put_vecl _ _ hlctx) rfl ?_
  refine TE_nil0 ?_
  refine pn_seq ?_
  refine pn_plainG [5] [(b7, .cells (recV (⟨0, 0, (ctxOf ctx), ⟨#[97]⟩, (decide (0 < tip)), (fun i => if i = 0 then tip else (fun _ => 0) i)⟩ : Rec)).cells 40 (0, 0)), (b6, .cells (recV recZ).cells 40 (0, 0))] rfl (fun a => by simp -failIfUnchanged <;> omega) ?_
  refine TE_q rfl rfl (RD.move rfl) rfl ?_
  refine TE_q rfl rfl (RD.move rfl) rfl ?_
  refine TE_q rfl rfl (RD.fieldAddr (o := 2) Tryz.runUnderlying40 rfl rfl Tryz.sizeOf36 rfl) rfl ?_
  refine TE_q rfl rfl (RD.indexAddrA Tryz.runUnderlying36 Tryz.sizeOf34 rfl rfl (by omega) (by omega)) rfl ?_
  refine TE_l rfl rfl trivial rfl (RD.load (i := 0) (v := .int .u32 ((ctxOf ctx) (site).toNat)) Tryz.isAgg34 rfl rfl (rec_ctx_get (by omega) (by omega))) rfl ?_
  refine TE_q rfl rfl (RD.convI Tryz.runUnderlying34 Tryz.runUnderlying3 rfl (by omega) (by omega)) rfl ?_
  refine TE_q rfl rfl (RD.addI rfl rfl (by omega) (by omega)) rfl ?_
  refine TE_q rfl rfl (RD.build (v := dotV site (((ctxOf ctx) (site).toNat) + 1)) rfl (bd_dot _ _)) rfl ?_
  refine TE_q rfl rfl (RD.fieldAddr (o := 0) Tryz.runUnderlying40 rfl rfl Tryz.sizeOf33 rfl) rfl ?_
  refine TE_putC 0 (recV (⟨0, 0, (ctxOf ctx), ⟨#[97]⟩, (decide (0 < tip)), (fun i => if i = 0 then tip else (fun _ => 0) i)⟩ : Rec)).cells (recV (⟨site, (((ctxOf ctx) (site).toNat) + 1), (ctxOf ctx), ⟨#[97]⟩, (decide (0 < tip)), (fun i => if i = 0 then tip else (fun _ => 0) i)⟩ : Rec)).cells [(b7, .cells (recV (⟨site, (((ctxOf ctx) (site).toNat) + 1), (ctxOf ctx), ⟨#[97]⟩, (decide (0 < tip)), (fun i => if i = 0 then tip else (fun _ => 0) i)⟩ : Rec)).cells 40 (0, 0)), (b6, .cells (recV recZ).cells 40 (0, 0))] rfl Tryz.sizeOf33 trivial rfl rfl rfl rfl rfl rfl (put_rec_dot _ _ _) rfl (.inl hb7) ?_
  refine TE_nil0 ?_
  refine pn_seq ?_
  refine pn_plain [] rfl ?_
  refine TE_l rfl rfl trivial rfl (RD.loadA (i := 0) Tryz.isAgg40 Tryz.sizeOf40 rfl rfl (Nat.le_of_ble_eq_true rfl) (rec_all _)) rfl ?_
  refine TE_putCW 1 (recV recZ).cells (recV (⟨site, (((ctxOf ctx) (site).toNat) + 1), (ctxOf ctx), ⟨#[97]⟩, (decide (0 < tip)), (fun i => if i = 0 then tip else (fun _ => 0) i)⟩ : Rec)).cells [(b7, .cells (recV (⟨site, (((ctxOf ctx) (site).toNat) + 1), (ctxOf ctx), ⟨#[97]⟩, (decide (0 < tip)), (fun i => if i = 0 then tip else (fun _ => 0) i)⟩ : Rec)).cells 40 (0, 0)), (b6, .cells (recV (⟨site, (((ctxOf ctx) (site).toNat) + 1), (ctxOf ctx), ⟨#[97]⟩, (decide (0 < tip)), (fun i => if i = 0 then tip else (fun _ => 0) i)⟩ : Rec)).cells 40 (0, 0))] rfl Tryz.sizeOf40 trivial rfl rfl rfl rfl rfl rfl rfl rfl (.inl hb6) ?_
  refine TE_nil0 ?_
  refine pn_ret ?_
  exact pn_doneF rfl ⟨recV (⟨site, (((ctxOf ctx) (site).toNat) + 1), (ctxOf ctx), ⟨#[97]⟩, (decide (0 < tip)), (fun i => if i = 0 then tip else (fun _ => 0) i)⟩ : Rec), _, b6, 0, rfl, rfl, load_agg (i := 1) Tryz.isAgg40 Tryz.sizeOf40 rfl (Nat.le_of_ble_eq_true rfl) (rec_all _), rfl⟩ ⟨rfl, rfl⟩ (fun _ h => h.sp (fun _ => Nat.zero_le _)) (fun _ he => nomatch he)

end Go.Proofs.YtaakjgmehbbgfaaGreatDoor
