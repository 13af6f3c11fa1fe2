import Derived.Test.YthagkkmbbncclaaDoorSn2
import Derived.Test.YthagkkmbbncclaaDoorDot
namespace Go.Proofs.YthagkkmbbncclaaDoor
open Go Go.Mv
set_option maxRecDepth 4000
theorem c_sinkBytes (HX : Mem) (s : Nat) (l ys : List UInt8) (st : SnkS) (xv : Value) (w : World) (hok : SnkOk l st) (hl : l.length ≤ 549755813888) (hy1 : ys.length ≤ 549755813888) (hb : BytesIn HX xv ys) (hw : Hp (HX ++ snkM 69 5 s l st) w) : Calls Tryd.prog 36 #[(.pointer (some ⟨s, 0, none⟩)), xv] w (Ret w (keys (snkM 69 5 s l st)) fun v H1 => ∃ st', v = (.pointer (some ⟨s, 0, none⟩)) ∧ H1 = snkM 69 5 s (l ++ lebL ys.length ++ ys) (some st') ∧ SnkOk (l ++ lebL ys.length ++ ys) (some st')) := by
  have hb0 := hb
  obtain ⟨a, c, rfl, hb⟩ := hb
  have h10 := lebL_len64 (n := ys.length) (by omega)
  refine fn_enter (args := [_, _]) Tryd.func36 rfl Tryd.ntmps36 rfl hw ?_
  refine pn_seq ?_
  refine pn_plain [] rfl ?_
  refine TE_q rfl rfl (RD.assign rfl) rfl ?_
  refine TE_nil0 ?_
  refine pn_seq ?_
  refine pn_plain [2, 3] rfl ?_
  refine TE_q rfl rfl (RD.move rfl) rfl ?_
  refine TE_q rfl rfl (RD.move rfl) rfl ?_
  refine TE_q rfl rfl (RD.len_slice Tryd.runUnderlying35 rfl) rfl ?_
  refine TE_q rfl rfl (RD.as (RD.conv Tryd.runUnderlying3 Tryd.runUnderlying74 rfl) (u64_len (by omega))) rfl ?_
  refine TE_callT HX _ rfl rfl rfl trivial Tryd.call37 rfl rfl rfl (snk_in rfl) (fun w hs => c_sinkNumber s ys.length l st w (by omega) hok (by omega) hs.hp.mid) ?_
  rintro v9 H4 ⟨⟨b', cap', tl'⟩, rfl, rfl, hok1⟩ hX1
  refine TE_q rfl rfl (RD.move rfl) rfl ?_
  refine TE_callT HX _ rfl rfl rfl trivial Tryd.call34 rfl rfl rfl hX1 (fun w hs => c_sinkRaw HX s _ ys _ _ w hok1 (by simp <;> omega) (by omega) hb0 (hs.hp.left.perm List.perm_append_comm)) ?_
  rintro v11 H6 ⟨st2, rfl, rfl, hok2, hs2, -⟩ hX2
  refine TE_q rfl rfl (RD.assign rfl) rfl ?_
  refine TE_nil0 ?_
  refine pn_ret ?_
  obtain ⟨st3, rfl⟩ := Option.isSome_iff_exists.1 (hs2 rfl); exact pn_done rfl rfl ⟨st3, rfl, rfl, hok2⟩ (List.sublist_append_right _ _) (where_ hX2)

def dotL (s c : Int) : List UInt8 := lebL s.toNat ++ lebL c.toNat
theorem dotL_len {s c : Int} (h : dotOk s c = true) : (dotL s c).length ≤ 20 := by
  have hd := dotOk_iff.1 h
  have h1 := lebL_len64 (n := s.toNat) (by omega)
  have h2 := lebL_len64 (n := c.toNat) (by omega)
  simp only [dotL, List.length_append]; omega

theorem c_dotEncode (s c : Int) (w : World) : Calls Tryd.prog 33 #[dotV s c] w (Ret w [] fun v H1 => (dotOk s c = true ∧ ∃ x, v = .tuple #[x, .int .i64 0] ∧ RetB 5 x H1 (dotL s c)) ∨ (dotOk s c = false ∧ v = .tuple #[.slice none 0 0, .int .i64 50] ∧ H1 = [])) := by
  refine fn_enter (args := [_]) Tryd.func33 rfl Tryd.ntmps33 rfl (Hp.nil w) ?_
  refine pn_seq ?_
  refine pn_plain [] rfl ?_
  refine TE_box rfl rfl trivial rfl fun b1 hb1 => ?_
  refine TE_q rfl rfl (RD.assign rfl) rfl ?_
  refine TE_q rfl rfl (RD.assign rfl) rfl ?_
  refine TE_nil0 ?_
  refine pn_seq ?_
  refine pn_seq ?_
  refine pn_plain [] rfl ?_
  refine TE_l rfl rfl trivial rfl (RD.loadA (i := 0) Tryd.isAgg23 Tryd.sizeOf23 rfl rfl (Nat.le_of_ble_eq_true rfl) (dot_all _ _)) rfl ?_
  refine TE_call rfl rfl trivial Tryd.call29 rfl rfl rfl (fun w hs' => c_dotCheck _ _ w) ?_
  rintro v7 H1 ⟨rfl, rfl⟩ -
  refine TE_q rfl rfl (RD.assign rfl) rfl ?_
  refine TE_nil0 ?_
  refine pn_seq ?_
  refine pn_plain [] rfl ?_
  refine TE_q rfl rfl (RD.move rfl) rfl ?_
  refine TE_q rfl rfl (RD.neq rfl rfl) rfl ?_
  refine TE_nil0 ?_
  first | refine pn_condD rfl (fun hc0 => ?_) (fun hc0 => ?_) | refine pn_condN rfl (fun hc0 => ?_) (fun hc0 => ?_) | refine pn_cond rfl (fun hc0 => ?_) (fun hc0 => ?_)
  · refine pn_seq ?_
    refine pn_plain [] rfl ?_
    refine TE_q rfl rfl (RD.move rfl) rfl ?_
    refine TE_q rfl rfl (RD.assign rfl) rfl ?_
    refine TE_q rfl rfl (RD.assign rfl) rfl ?_
    refine TE_nil0 ?_
    refine pn_ret ?_
    exact pn_done rfl rfl (.inr ⟨err1 hc0, by rw [err1 hc0]; rfl, rfl⟩) (List.nil_sublist _) (by simp)
  · refine pn_skip ?_
    refine pn_seq ?_
    refine pn_plain [] rfl ?_
    refine TE_alloc rfl Tryd.zeroValue69 trivial rfl fun b5 hb5 => ?_
    refine TE_nil0 ?_
    refine pn_seq ?_
    refine pn_draw [1, 2, 5, 6] [0] [1] rfl (by kernel_rfl) (by kernel_rfl) rfl rfl ?_
    refine TE_q rfl rfl (RD.fieldAddr (o := 0) Tryd.runUnderlying23 rfl rfl Tryd.sizeOf3 rfl) rfl ?_
    have hd := dotOk_iff.1 (err0 hc0); have h1 := lebL_len64 (n := s.toNat) (by omega); have h2 := lebL_len64 (n := c.toNat) (by omega)
    refine TE_q rfl rfl (RD.load (i := 0) Tryd.isAgg3 rfl rfl rfl) rfl ?_
    refine TE_q rfl rfl (RD.as (RD.conv Tryd.runUnderlying3 Tryd.runUnderlying74 rfl) (u64_of (by omega) (by omega))) rfl ?_
    refine TE_callT [] _ rfl rfl rfl trivial Tryd.call37 rfl rfl rfl (snk_all0 (u := 5) (l := []) (fun k => _ ≤ k ∨ k ∈ _) (.inl hb5)) (fun w hs => c_sinkNumber b5 s.toNat [] none w (by omega) rfl (by decide) hs.hp.left) ?_
    rintro v14 H3 ⟨⟨b', cap', tl'⟩, rfl, rfl, hok1⟩ hX1
    refine TE_q rfl rfl (RD.fieldAddr (o := 1) Tryd.runUnderlying23 rfl rfl Tryd.sizeOf3 rfl) rfl ?_
    refine TE_q rfl rfl (RD.load (i := 0) Tryd.isAgg3 rfl rfl rfl) rfl ?_
    refine TE_q rfl rfl (RD.as (RD.conv Tryd.runUnderlying3 Tryd.runUnderlying74 rfl) (u64_of (by omega) (by omega))) rfl ?_
    refine TE_callT [] _ rfl rfl rfl trivial Tryd.call37 rfl rfl rfl hX1 (fun w hs => c_sinkNumber b5 c.toNat _ _ w (by omega) hok1 (by simp <;> omega) hs.hp.left) ?_
    rintro v18 H7 ⟨⟨b2, cap2, tl2⟩, rfl, rfl, hok2⟩ hX2
    refine TE_call rfl rfl trivial Tryd.call38 rfl rfl rfl (fun w hs => c_sinkAll b5 _ _ w hok2 (by simp <;> omega) hs.hp.left) ?_
    rintro v19 H8 hr hX3
    refine TE_q rfl rfl (RD.assign rfl) rfl ?_
    refine TE_q rfl rfl (RD.assign rfl) rfl ?_
    refine TE_nil ?_
    refine pn_ret ?_
    exact pn_done rfl rfl (.inl ⟨err0 hc0, _, rfl, hr⟩) (List.sublist_append_of_sublist_left (List.sublist_append_left _ _)) (fun e he => .inr (hX3 e he))

end Go.Proofs.YthagkkmbbncclaaDoor
