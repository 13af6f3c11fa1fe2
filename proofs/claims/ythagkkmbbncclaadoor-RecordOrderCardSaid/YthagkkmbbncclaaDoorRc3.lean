import Derived.Test.YthagkkmbbncclaaDoorRc2
import Derived.Test.YthagkkmbbncclaaDoorMvB
namespace Go.Proofs.YthagkkmbbncclaaDoor
open Go Go.Mv
set_option maxRecDepth 8000
/-- P12.4: a record's bytes. -/
def recH (r : Rec) : List UInt8 := dotL r.s r.c ++ vecL r.ctx ++ lebL r.ref.data.toList.length ++ r.ref.data.toList
def recL (r : Rec) : List UInt8 := recH r ++ (bif r.has then lebL 1 ++ tipL r.tip else lebL 0)
theorem retB_some {u : TypeId} {v : Value} {H1 : Mem} {ys : List UInt8} (h : RetB u v H1 ys) (hp : 0 < ys.length) : ∃ b cap tl, v = .slice (some ⟨b, 0, none⟩) ys.length cap ∧ H1 = [(b, .cells (bcells ys ++ tl).toArray u (0, 0))] := by
  rcases h with ⟨b, cap, tl, h1, h2, _⟩ | ⟨_, _, rfl⟩
  · exact ⟨b, cap, tl, h1, h2⟩
  · simp at hp
theorem dotL_pos (s c : Int) : 0 < (dotL s c).length := by
  have := lebL_pos s.toNat
  simp only [dotL, List.length_append]; omega
theorem recH_len {r : Rec} (h : recOkB r = true) (hc : VecOk r.ctx) (hs : r.ref.size ≤ 2147483648) : (recH r).length ≤ 2147484648 := by
  simp only [recOkB, Bool.and_eq_true] at h
  have h1 := dotL_len h.1.1.1
  have h2 := vecL_len hc
  have h3 := lebL_len64 (n := r.ref.data.toList.length) (by simp; omega)
  have h4 : r.ref.data.toList.length = r.ref.size := by simp
  simp only [recH, List.length_append]; omega

theorem recOk_dot {r : Rec} (h : recOkB r = true) : dotOk r.s r.c = true := by
  simp only [recOkB, Bool.and_eq_true] at h
  exact h.1.1.1
def recH' (r : Rec) : List UInt8 := [] ++ dotL r.s r.c ++ vecL r.ctx ++ lebL r.ref.data.toList.length ++ r.ref.data.toList
theorem recH'_eq (r : Rec) : recH' r = recH r := by simp [recH', recH]

set_option maxHeartbeats 4000000 in

theorem c_recEncode (r : Rec) (g : Obj) (w : World) (hr : RecOk r) (hg : GOk g) (hs : r.ref.size ≤ 2147483648) (hH : Hp [(0, g)] w) : Calls Tryd.prog 15 #[recV r] w (Ret w [] fun v H1 => (recOkB r = true ∧ ∃ x, v = .tuple #[x, .int .i64 0] ∧ RetB 5 x H1 (recL r)) ∨ (recOkB r = false ∧ v = .tuple #[.slice none 0 0, .int .i64 120] ∧ H1 = [])) := by
  refine fn_enter (args := [_]) Tryd.func15 rfl Tryd.ntmps15 rfl hH ?_
  refine pn_seq ?_
  refine pn_plain [] rfl ?_
  refine TE_box rfl rfl trivial rfl fun b1 hb1 => ?_
  refine TE_q rfl rfl (RD.assign rfl) rfl ?_
  refine TE_q rfl rfl (RD.assign rfl) rfl ?_
  refine TE_nil0 ?_
  refine pn_seq ?_
  refine pn_seq ?_
  refine pn_plain [] rfl ?_
  refine TE_l rfl rfl trivial rfl (RD.loadA (i := 0) Tryd.isAgg30 Tryd.sizeOf30 rfl rfl (Nat.le_of_ble_eq_true rfl) (rec_all _)) rfl ?_
  refine TE_call rfl rfl trivial Tryd.call9 rfl rfl rfl (fun w hs' => c_recCheck r g w hr hg (by omega) (hs'.hp.left.sub (List.Sublist.cons _ (List.Sublist.refl _)))) ?_
  rintro v9 H1 ⟨rfl, rfl⟩ -
  refine TE_q rfl rfl (RD.assign rfl) rfl ?_
  refine TE_nil0 ?_
  refine pn_seq ?_
  refine pn_plain [] rfl ?_
  refine TE_q rfl rfl (RD.move rfl) rfl ?_
  refine TE_q rfl rfl (RD.neq rfl rfl) rfl ?_
  refine TE_nil0 ?_
  first | refine pn_condD rfl (fun hc0 => ?_) (fun hc0 => ?_) | refine pn_condN rfl (fun hc0 => ?_) (fun hc0 => ?_) | refine pn_cond rfl (fun hc0 => ?_) (fun hc0 => ?_)
  · refine pn_seq ?_
    refine pn_plain [] rfl ?_
    refine TE_q rfl rfl (RD.move rfl) rfl ?_
    refine TE_q rfl rfl (RD.assign rfl) rfl ?_
    refine TE_q rfl rfl (RD.assign rfl) rfl ?_
    refine TE_nil0 ?_
    refine pn_ret ?_
    exact pn_done rfl rfl (.inr ⟨err1 hc0, by rw [err1 hc0]; rfl, rfl⟩) (List.nil_sublist _) (by simp)
  · refine pn_skip ?_
    refine pn_seq ?_
    refine pn_plain [] rfl ?_
    refine TE_q rfl rfl (RD.fieldAddr (o := 0) Tryd.runUnderlying30 rfl rfl Tryd.sizeOf23 rfl) rfl ?_
    refine TE_l rfl rfl trivial rfl (RD.loadA (i := 0) Tryd.isAgg23 Tryd.sizeOf23 rfl rfl (Nat.le_of_ble_eq_true rfl) (rec_dot _)) rfl ?_
    refine TE_call rfl rfl trivial Tryd.call33 rfl rfl rfl (fun w hs' => c_dotEncode r.s r.c w) ?_
    rintro v16 H2 (⟨hdo, x, rfl, hx⟩ | ⟨hdo, rfl, rfl⟩) hXd; rotate_left; (exact absurd (recOk_dot (err0 hc0)) (by simp [hdo])); have hok := err0 hc0; obtain ⟨bd, capd, tld, rfl, rfl⟩ := retB_some hx (dotL_pos _ _)
    refine TE_q rfl rfl (RD.move rfl) rfl ?_
    refine TE_q rfl rfl (RD.extract rfl rfl) rfl ?_
    refine TE_q rfl rfl (RD.extract rfl rfl) rfl ?_
    refine TE_q rfl rfl (RD.assign rfl) rfl ?_
    refine TE_q rfl rfl (RD.assign rfl) rfl ?_
    refine TE_nil0 ?_
    refine pn_seq ?_
    refine pn_seq ?_
    refine pn_plain [] rfl ?_
    refine TE_q rfl rfl (RD.move rfl) rfl ?_
    refine TE_q rfl rfl (RD.neq rfl rfl) rfl ?_
    refine TE_nil0 ?_
    refine pn_condF rfl ?_
    refine pn_skip ?_
    refine pn_seq ?_
    refine pn_plain [] rfl ?_
    refine TE_alloc rfl Tryd.zeroValue69 trivial rfl fun b7 hb7 => ?_
    refine TE_nil0 ?_
    refine pn_seq ?_
    have hld := dotL_len (recOk_dot hok)
    have hlv := vecL_len hr.ctx
    have hl3 := lebL_len64 (n := r.ref.data.toList.length) (by simp; omega)
    have hl4 : r.ref.data.toList.length = r.ref.size := by simp
    refine pn_cut (σ := Nat × Nat × List Value) (fun _ => [(1, .pointer (some ⟨b1, 0, none⟩)), (7, .pointer (some ⟨b7, 0, none⟩))]) (fun st => (b1, .cells (recV r).cells 30 (0, 0)) :: snkM 69 5 b7 (recH' r) (some st)) (fun st => SnkOk (recH' r) (some st) ∧ ∀ e ∈ snkM 69 5 b7 (recH' r) (some st), w.heap.size ≤ e.1 ∨ e.1 ∈ []) ?_ ?_
    · refine pn_drawM [3, 7] [0] [1, 2] (seqT [0, 2, 3, 6, 7] (.fork (seqT [8, 1, 4, 5, 9] .nil) (.op 1 (.fork (seqT [8, 4, 5, 9] .nil) (.op 4 (.fork (seqT [8, 5, 9] .nil) (seqT [5, 8, 9] .nil))))))) [_, _, _, _] [] rfl rfl (by kernel_rfl) (by kernel_rfl) rfl rfl ?_
      refine TE_q rfl rfl (RD.move rfl) rfl ?_
      refine TE_q rfl rfl (RD.fieldAddr (o := 2) Tryd.runUnderlying30 rfl rfl Tryd.sizeOf26 rfl) rfl ?_
      refine TE_q rfl rfl (RD.loadA (i := 1) Tryd.isAgg26 Tryd.sizeOf26 rfl rfl (Nat.le_of_ble_eq_true rfl) (rec_ctx' _)) rfl ?_
      refine TE_q rfl rfl (RD.fieldAddr (o := 18) Tryd.runUnderlying30 rfl rfl Tryd.sizeOf9 rfl) rfl ?_
      refine TE_q rfl rfl (RD.load (i := 1) Tryd.isAgg9 rfl rfl rfl) rfl ?_
      refine TE_fork ?_ ?_
      · refine TE_strBytes rfl rfl trivial rfl Tryd.underlying9 Tryd.underlying35 Tryd.underlying5 rfl fun bc capc tlc fzc hbc => ?_
        refine TE_callT [_] _ rfl rfl rfl trivial Tryd.call34 rfl rfl rfl (snk_all0 (u := 5) (l := []) (fun k => _ ≤ k ∨ k ∈ _) (.inl hb7)) (fun w hs' => c_sinkRaw [(bd, .cells (bcells (dotL r.s r.c) ++ tld).toArray 5 (0, 0)), (b1, .cells (recV r).cells 30 (0, 0))] b7 [] (dotL r.s r.c) none _ w rfl (by decide) (by omega) (BytesIn.blk (i := 0) (tl := tld) rfl) (hs'.hp.sub (List.sublist_cons_self _ _)))  ?_
        rintro v22 H1 ⟨st1, rfl, rfl, hok1, -, hss1⟩ hX1
        refine TE_call rfl rfl trivial Tryd.call35 rfl rfl rfl (fun w hs' => c_vecEncode r.ctx w hr.ctx) ?_
        rintro v25 H4 hv25 hX25
        obtain ⟨bv, capv, tlv, rfl, rfl⟩ := retB_some hv25 (vecL_pos _)
        refine TE_callT [_, _] _ rfl rfl rfl trivial Tryd.call34 rfl rfl rfl hX1 (fun w hs' => c_sinkRaw [_, _] b7 _ (vecL r.ctx) st1 _ w hok1 (by simp <;> omega) (by omega) (BytesIn.blk (i := 0) (tl := tlv) rfl) (hs'.hp.left.perm List.perm_append_comm)) ?_
        rintro v26 H5 ⟨st2, rfl, rfl, hok2, hss2, -⟩ hX2
        refine TE_callT [_, _] _ rfl rfl rfl trivial Tryd.call36 rfl rfl rfl hX2 (fun w hs' => c_sinkBytes [_, _] b7 _ r.ref.data.toList st2 _ w hok2 (by simp <;> omega) (by omega) (BytesIn.blk (i := 1) (tl := tlc) rfl) hs'.hp.left) ?_
        rintro v30 H9 ⟨⟨b3, cap3, tl3⟩, rfl, rfl, hok3⟩ hX3
        refine TE_nil ?_
        exact pn_give (b3, cap3, tl3) ⟨hok3, hX3⟩ ⟨rfl, rfl, trivial⟩ (fun w h => (h.sub (.cons _ (.cons _ (.cons_cons _ (.cons_cons _ (.cons _ (.cons_cons _ .slnil))))))).perm (List.perm_append_comm (l₁ := [_, _]) (l₂ := [_])))
      · refine TE_callT [] _ rfl rfl rfl trivial Tryd.call34 rfl rfl rfl (snk_all0 (u := 5) (l := []) (fun k => _ ≤ k ∨ k ∈ _) (.inl hb7)) (fun w hs' => c_sinkRaw [(bd, .cells (bcells (dotL r.s r.c) ++ tld).toArray 5 (0, 0)), (b1, .cells (recV r).cells 30 (0, 0))] b7 [] (dotL r.s r.c) none _ w rfl (by decide) (by omega) (BytesIn.blk (i := 0) (tl := tld) rfl) hs'.hp)  ?_
        rintro v22 H1 ⟨st1, rfl, rfl, hok1, -, hss1⟩ hX1
        refine TE_fork ?_ ?_
        · refine TE_strBytes rfl rfl trivial rfl Tryd.underlying9 Tryd.underlying35 Tryd.underlying5 rfl fun bc capc tlc fzc hbc => ?_
          refine TE_call rfl rfl trivial Tryd.call35 rfl rfl rfl (fun w hs' => c_vecEncode r.ctx w hr.ctx) ?_
          rintro v25 H4 hv25 hX25
          obtain ⟨bv, capv, tlv, rfl, rfl⟩ := retB_some hv25 (vecL_pos _)
          refine TE_callT [_, _] _ rfl rfl rfl trivial Tryd.call34 rfl rfl rfl hX1 (fun w hs' => c_sinkRaw [_, _] b7 _ (vecL r.ctx) st1 _ w hok1 (by simp <;> omega) (by omega) (BytesIn.blk (i := 0) (tl := tlv) rfl) (hs'.hp.left.perm List.perm_append_comm)) ?_
          rintro v26 H5 ⟨st2, rfl, rfl, hok2, hss2, -⟩ hX2
          refine TE_callT [_, _] _ rfl rfl rfl trivial Tryd.call36 rfl rfl rfl hX2 (fun w hs' => c_sinkBytes [_, _] b7 _ r.ref.data.toList st2 _ w hok2 (by simp <;> omega) (by omega) (BytesIn.blk (i := 1) (tl := tlc) rfl) hs'.hp.left) ?_
          rintro v30 H9 ⟨⟨b3, cap3, tl3⟩, rfl, rfl, hok3⟩ hX3
          refine TE_nil ?_
          exact pn_give (b3, cap3, tl3) ⟨hok3, hX3⟩ ⟨rfl, rfl, trivial⟩ (fun w h => (h.sub (.cons _ (.cons _ (.cons_cons _ (.cons_cons _ (.cons _ (.cons_cons _ .slnil))))))).perm (List.perm_append_comm (l₁ := [_, _]) (l₂ := [_])))
        · refine TE_call rfl rfl trivial Tryd.call35 rfl rfl rfl (fun w hs' => c_vecEncode r.ctx w hr.ctx) ?_
          rintro v25 H4 hv25 hX25
          obtain ⟨bv, capv, tlv, rfl, rfl⟩ := retB_some hv25 (vecL_pos _)
          refine TE_fork ?_ ?_
          · refine TE_strBytes rfl rfl trivial rfl Tryd.underlying9 Tryd.underlying35 Tryd.underlying5 rfl fun bc capc tlc fzc hbc => ?_
            refine TE_callT [_, _] _ rfl rfl rfl trivial Tryd.call34 rfl rfl rfl hX1 (fun w hs' => c_sinkRaw [_, _] b7 _ (vecL r.ctx) st1 _ w hok1 (by simp <;> omega) (by omega) (BytesIn.blk (i := 1) (tl := tlv) rfl) (hs'.hp.left.perm List.perm_append_comm)) ?_
            rintro v26 H5 ⟨st2, rfl, rfl, hok2, hss2, -⟩ hX2
            refine TE_callT [_, _] _ rfl rfl rfl trivial Tryd.call36 rfl rfl rfl hX2 (fun w hs' => c_sinkBytes [_, _] b7 _ r.ref.data.toList st2 _ w hok2 (by simp <;> omega) (by omega) (BytesIn.blk (i := 0) (tl := tlc) rfl) hs'.hp.left) ?_
            rintro v30 H9 ⟨⟨b3, cap3, tl3⟩, rfl, rfl, hok3⟩ hX3
            refine TE_nil ?_
            exact pn_give (b3, cap3, tl3) ⟨hok3, hX3⟩ ⟨rfl, rfl, trivial⟩ (fun w h => (h.sub (.cons _ (.cons _ (.cons_cons _ (.cons_cons _ (.cons _ (.cons_cons _ .slnil))))))).perm (List.perm_append_comm (l₁ := [_, _]) (l₂ := [_])))
          · refine TE_callT [_] _ rfl rfl rfl trivial Tryd.call34 rfl rfl rfl hX1 (fun w hs' => c_sinkRaw [_] b7 _ (vecL r.ctx) st1 _ w hok1 (by simp <;> omega) (by omega) (BytesIn.blk (i := 0) (tl := tlv) rfl) (hs'.hp.left.perm List.perm_append_comm)) ?_
            rintro v26 H5 ⟨st2, rfl, rfl, hok2, hss2, -⟩ hX2
            refine TE_strBytes rfl rfl trivial rfl Tryd.underlying9 Tryd.underlying35 Tryd.underlying5 rfl fun bc capc tlc fzc hbc => ?_
            refine TE_callT [_, _] _ rfl rfl rfl trivial Tryd.call36 rfl rfl rfl hX2 (fun w hs' => c_sinkBytes [_, _] b7 _ r.ref.data.toList st2 _ w hok2 (by simp <;> omega) (by omega) (BytesIn.blk (i := 0) (tl := tlc) rfl) hs'.hp.left) ?_
            rintro v30 H9 ⟨⟨b3, cap3, tl3⟩, rfl, rfl, hok3⟩ hX3
            refine TE_nil ?_
            exact pn_give (b3, cap3, tl3) ⟨hok3, hX3⟩ ⟨rfl, rfl, trivial⟩ (fun w h => (h.sub (.cons _ (.cons _ (.cons_cons _ (.cons_cons _ (.cons _ (.cons_cons _ .slnil))))))).perm (List.perm_append_comm (l₁ := [_, _]) (l₂ := [_])))
    rintro ⟨b3, cap3, tl3⟩ ⟨hok3, hX3⟩
    refine pn_seq ?_
    refine pn_seq ?_
    refine pn_plain [] rfl ?_
    refine TE_q rfl rfl (RD.fieldAddr (o := 19) Tryd.runUnderlying30 rfl rfl Tryd.sizeOf4 rfl) rfl ?_
    refine TE_l rfl rfl trivial rfl (RD.load (i := 0) Tryd.isAgg4 rfl rfl rfl) rfl ?_
    refine TE_q rfl rfl (RD.not rfl) rfl ?_
    refine TE_nil0 ?_
    first | refine pn_condD rfl (fun hc2 => ?_) (fun hc2 => ?_) | refine pn_condN rfl (fun hc2 => ?_) (fun hc2 => ?_) | refine pn_cond rfl (fun hc2 => ?_) (fun hc2 => ?_)
    · refine pn_seq ?_
      refine pn_plain [] rfl ?_
      refine TE_callT [_] _ rfl rfl rfl trivial Tryd.call37 rfl rfl rfl hX3 (fun w hs' => c_sinkNumber b7 0 _ _ w (by omega) hok3 (by rw [recH'_eq]; have := recH_len hok hr.ctx (by omega); omega) hs'.hp.mid) ?_
      rintro v34 H0 ⟨⟨b4, cap4, tl4⟩, rfl, rfl, hok4⟩ hX4
      refine TE_call rfl rfl trivial Tryd.call38 rfl rfl rfl (fun w hs' => c_sinkAll b7 _ _ w hok4 (by rw [recH'_eq]; have := recH_len hok hr.ctx (by omega); have := lebL_len64 (n := 1) (by decide); have := lebL_len64 (n := 0) (by decide); simp only [List.length_append]; omega) (hs'.hp.left.sub (List.sublist_cons_self _ _))) ?_
      rintro v35 H1 hres hX5
      refine TE_q rfl rfl (RD.assign rfl) rfl ?_
      refine TE_q rfl rfl (RD.assign rfl) rfl ?_
      refine TE_nil0 ?_
      refine pn_ret ?_
      exact pn_done rfl rfl (.inl ⟨hok, _, rfl, by rw [show recL r = recH' r ++ lebL 0 from by rw [recH'_eq]; simp only [recL]; rw [show r.has = false from by simpa using hc2]; rfl]; exact hres⟩) (List.sublist_append_left _ _) (fun e he => .inr (hX5 e he))
    · refine pn_skip ?_
      refine pn_seq ?_
      refine pn_draw [] [1, 2] [0] rfl (by kernel_rfl) (by kernel_rfl) rfl rfl ?_
      refine TE_callT [] _ rfl rfl rfl trivial Tryd.call37 rfl rfl rfl hX3 (fun w hs' => c_sinkNumber b7 1 _ _ w (by omega) hok3 (by rw [recH'_eq]; have := recH_len hok hr.ctx (by omega); omega) hs'.hp.left) ?_
      rintro v36 H0 ⟨⟨b4, cap4, tl4⟩, rfl, rfl, hok4⟩ hX4
      refine TE_q rfl rfl (RD.fieldAddr (o := 20) Tryd.runUnderlying30 rfl rfl Tryd.sizeOf28 rfl) rfl ?_
      refine TE_q rfl rfl (RD.sliceA Tryd.runUnderlying28 Tryd.sizeOf5 rfl rfl (Nat.le_refl _)) rfl ?_
      refine TE_callT [] _ rfl rfl rfl trivial Tryd.call34 rfl rfl rfl hX4 (fun w hs' => c_sinkRaw [(b1, .cells (recV r).cells 30 (0, 0))] b7 _ (tipL r.tip) _ _ w hok4 (by rw [recH'_eq]; have := recH_len hok hr.ctx (by omega); have := lebL_len64 (n := 1) (by decide); have := lebL_len64 (n := 0) (by decide); simp only [List.length_append]; omega) (by rw [tipL_len]; decide) (tip_bytes (i := 0) hr.tip rfl) hs'.hp) ?_
      rintro v39 H3 ⟨st5, rfl, rfl, hok5, hss5, -⟩ hX6
      refine TE_call rfl rfl trivial Tryd.call38 rfl rfl rfl (fun w hs' => c_sinkAll b7 _ _ w hok5 (by rw [recH'_eq]; have := recH_len hok hr.ctx (by omega); have := lebL_len64 (n := 1) (by decide); have := tipL_len r.tip; simp only [List.length_append]; omega) hs'.hp.left) ?_
      rintro v40 H4 hres hX5
      refine TE_q rfl rfl (RD.assign rfl) rfl ?_
      refine TE_q rfl rfl (RD.assign rfl) rfl ?_
      refine TE_nil ?_
      refine pn_ret ?_
      exact pn_done rfl rfl (.inl ⟨hok, _, rfl, by rw [show recL r = recH' r ++ lebL 1 ++ tipL r.tip from by rw [recH'_eq, List.append_assoc]; simp only [recL]; rw [show r.has = true from by simpa using hc2]; rfl]; exact hres⟩) (List.sublist_append_of_sublist_left (List.sublist_append_left _ _)) (fun e he => .inr (hX5 e he))

end Go.Proofs.YthagkkmbbncclaaDoor
