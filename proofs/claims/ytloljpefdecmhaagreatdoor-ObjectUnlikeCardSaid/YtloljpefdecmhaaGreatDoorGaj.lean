import Derived.Test.YtloljpefdecmhaaGreatDoorGai
import Derived.Test.YtloljpefdecmhaaGreatDoorSrt
import Derived.ProofKit
import Derived.OpenShut
import Derived.Deep.DeepHandedRow
import Derived.WideKeyArgs
import Derived.Lib.LaidTab
import Derived.SevenTiedAt
import Derived.ChangeSlices
namespace Go.Proofs.YtloljpefdecmhaaGreatDoor
open Go Go.Mv
set_option maxRecDepth 8000
theorem lv_back {fn : Func} {C : Ctx} {R : Ending → World → Prop} {E : Env} {ds : List Deferred} {H : Mem} {s : Nat} {a a' : Option Addr} {n c n' c' b5 x2 x3 x5 : Nat} {ev : Int} (REST : Mem) (hH : ∀ w, Hp H w → Hp (([(x5, .cells #[.slice a n c] 32 (0, 0)), (x3, .cells #[.pointer (some ⟨b5, 0, none⟩)] 182 (0, 0)), (x2, .cells #[.pointer (some ⟨s, 0, none⟩)] 125 (0, 0)), (b5, .cells #[.int .i64 ev] 25 (0, 0))] ++ REST) ++ [(s, .cells #[.slice a' n' c'] 180 (0, 0))]) w) (hX : C.w0.heap.size ≤ s ∨ s ∈ C.X)
    (h : LV Tryz.prog fn C R E ds (([(x5, .cells #[.slice a n c] 32 (0, 0)), (x3, .cells #[.pointer (some ⟨b5, 0, none⟩)] 182 (0, 0)), (x2, .cells #[.pointer (some ⟨s, 0, none⟩)] 125 (0, 0)), (b5, .cells #[.int .i64 ev] 25 (0, 0))] ++ REST) ++ [(s, .cells #[if ev = 0 then .slice a' n' c' else .slice a n c] 180 (0, 0))])) : LV Tryz.prog fn C R E ({ target := .fn (.func 136) #[.pointer (some ⟨x3, 0, none⟩), .pointer (some ⟨x5, 0, none⟩), .pointer (some ⟨x2, 0, none⟩)], args := #[] } :: ds) H := by
  refine lv_call ([(x5, .cells #[.slice a n c] 32 (0, 0)), (x3, .cells #[.pointer (some ⟨b5, 0, none⟩)] 182 (0, 0)), (x2, .cells #[.pointer (some ⟨s, 0, none⟩)] 125 (0, 0)), (b5, .cells #[.int .i64 ev] 25 (0, 0))] ++ REST) [(s, .cells #[.slice a' n' c'] 180 (0, 0))] hH Tryz.call136 (allC (Q := fun k => C.w0.heap.size ≤ k ∨ k ∈ C.X) hX (allN (Q := fun k => C.w0.heap.size ≤ k ∨ k ∈ C.X))) (fun w h => ?_) (post' := fun _ H1 => H1 = [(s, .cells #[if ev = 0 then .slice a' n' c' else .slice a n c] 180 (0, 0))]) ?_
  · exact c_back1 s b5 x2 x3 x5 a a' n c n' c' ev w (h.sub (List.Sublist.append_right (List.sublist_append_left _ _) _))
  · rintro v H1 rfl -
    exact h
/-- What reading bytes leaves. -/
def ReadsB (HX : Mem) (s : Nat) (ys : List UInt8) (d : Dr (List UInt8)) (v : Value) (H1 : Mem) : Prop :=
  (∃ b r v' x H2, d = .ok b r ∧ v = .tuple #[x, .int .i64 0] ∧ RetB 5 x H2 b ∧ H1 = H2 ++ srcM s v' HX ∧ Rdb HX v' r ∧ r.length ≤ ys.length) ∨
  (∃ e v' r, d = .err e ∧ e ≠ 0 ∧ v = .tuple #[.slice none 0 0, .int .i64 e] ∧ H1 = srcM s v' HX ∧ Rdb HX v' r ∧ r.length ≤ ys.length)

theorem c_raw (HX : Mem) (s n : Nat) (sv : Value) (ys : List UInt8) (w : World) (hb : Rdb HX sv ys) (hlen : ys.length ≤ 2199023255552) (hw : Hp (srcM s sv HX) w) : Calls Tryz.prog 110 #[.pointer (some ⟨s, 0, none⟩), .int .i64 (n : Int)] w (Ret w (keys (srcM s sv HX)) (ReadsB HX s ys (rawD n ys))) := by
  refine fn_enter (args := [_, _]) Tryz.func110 rfl Tryz.ntmps110 rfl hw ?_
  refine pn_seq ?_
  refine pn_plain [] rfl ?_
  refine TE_q rfl rfl (RD.assign rfl) rfl ?_
  refine TE_q rfl rfl (RD.assign rfl) rfl ?_
  refine TE_nil0 ?_
  refine pn_seq ?_
  refine pn_block ?_
  refine pn_seq ?_
  refine pn_plain [] rfl ?_
  refine TE_q rfl rfl (RD.move rfl) rfl ?_
  refine TE_q rfl rfl (RD.ptr_eql_nil Tryz.runUnderlying125 rfl rfl) rfl ?_
  refine TE_q rfl rfl (RD.assign rfl) rfl ?_
  refine TE_nil0 ?_
  refine pn_condF rfl ?_
  refine pn_seq ?_
  refine pn_plain [] rfl ?_
  refine TE_q rfl rfl (RD.move rfl) rfl ?_
  refine TE_q rfl rfl (RD.as (v := .bool false) (RD.lss rfl rfl) (by rw [decide_eq_false (by omega)])) rfl ?_
  refine TE_q rfl rfl (RD.assign rfl) rfl ?_
  refine TE_nil0 ?_
  refine pn_condF rfl ?_
  refine pn_seq ?_
  refine pn_plain [5] rfl ?_
  refine TE_q rfl rfl (RD.move rfl) rfl ?_
  refine TE_q rfl rfl (RD.move rfl) rfl ?_
  refine TE_q rfl rfl (RD.nilCheckP rfl) rfl ?_
  refine TE_q rfl rfl (RD.fieldAddr (o := 0) Tryz.runUnderlying180 rfl rfl Tryz.sizeOf32 rfl) rfl ?_
  refine TE_l rfl rfl trivial rfl (RD.load (i := 0) Tryz.isAgg32 rfl rfl rfl) rfl ?_
  refine TE_q rfl rfl (RD.lenR Tryz.runUnderlying32 rfl hb) rfl ?_
  refine TE_q rfl rfl (RD.gtr rfl rfl) rfl ?_
  refine TE_q rfl rfl (RD.assign rfl) rfl ?_
  refine TE_nil0 ?_
  first | refine pn_condD rfl (fun hc2 => ?_) (fun hc2 => ?_) | refine pn_condN rfl (fun hc2 => ?_) (fun hc2 => ?_) | refine pn_cond rfl (fun hc2 => ?_) (fun hc2 => ?_)
  · refine pn_seq ?_
    refine pn_plain [] rfl ?_
    refine TE_q rfl rfl (RD.assign rfl) rfl ?_
    refine TE_q rfl rfl (RD.assign rfl) rfl ?_
    refine TE_nil0 ?_
    refine pn_ret ?_
    exact pn_doneF rfl ⟨_, _, rfl, rfl, _, _, rfl, rfl, rfl⟩ (.inr ⟨10, sv, ys, by simp only [rawD]; rw [if_pos (by omega)], by decide, rfl, rfl, hb, Nat.le_refl _⟩) (fun w h => h) in_src
  · refine pn_skip ?_
    refine pn_seq ?_
    refine pn_plain [] rfl ?_
    refine TE_q rfl rfl (RD.move rfl) rfl ?_
    have hle : n ≤ ys.length := (by omega); have hb2 := hb.cut hle; obtain ⟨a2, c2, hs2⟩ := hb2.shape; rw [hs2] at hb2
    refine TE_q rfl rfl (RD.nilCheckP rfl) rfl ?_
    refine TE_q rfl rfl (RD.fieldAddr (o := 0) Tryz.runUnderlying180 rfl rfl Tryz.sizeOf32 rfl) rfl ?_
    refine TE_l rfl rfl trivial rfl (RD.load (i := 0) Tryz.isAgg32 rfl rfl rfl) rfl ?_
    refine TE_q rfl rfl (RD.move rfl) rfl ?_
    refine TE_q rfl rfl (RD.sliceR (l := 0) (h := n) Tryz.runUnderlying32 Tryz.sizeOf5 rfl hb rfl ⟨_, rfl⟩ (Nat.zero_le _) hle) rfl ?_
    refine TE_call rfl rfl trivial Tryz.call107 rfl rfl rfl (fun w hs' => c_clone HX _ (ys.take n) w (hs'.hp.left.sub (List.sublist_cons_self _ _)) (by have := hb.sub (Nat.zero_le n) hle; rw [List.drop_zero] at this; exact this.bytes) (by rw [List.length_take]; omega)) ?_
    rintro v27 H6 hr hX6
    refine TE_q rfl rfl (RD.assign rfl) rfl ?_
    refine TE_nil0 ?_
    refine pn_seq ?_
    refine pn_perm (srcM s sv HX ++ H6) (fun w h => h.perm List.perm_append_comm) ?_
    refine pn_plain [] rfl ?_
    refine TE_q rfl rfl (RD.move rfl) rfl ?_
    refine TE_q rfl rfl (RD.move rfl) rfl ?_
    refine TE_q rfl rfl (RD.nilCheckP rfl) rfl ?_
    refine TE_q rfl rfl (RD.fieldAddr (o := 0) Tryz.runUnderlying180 rfl rfl Tryz.sizeOf32 rfl) rfl ?_
    refine TE_l rfl rfl trivial rfl (RD.load (i := 0) Tryz.isAgg32 rfl rfl rfl) rfl ?_
    refine TE_q rfl rfl (RD.move rfl) rfl ?_
    refine TE_q rfl rfl (RD.as (RD.sliceR (l := n) (h := ys.length) Tryz.runUnderlying32 Tryz.sizeOf5 rfl hb ⟨_, rfl⟩ rfl hle (Nat.le_refl _)) hs2) rfl ?_
    refine TE_q rfl rfl (RD.nilCheckP rfl) rfl ?_
    refine TE_q rfl rfl (RD.fieldAddr (o := 0) Tryz.runUnderlying180 rfl rfl Tryz.sizeOf32 rfl) rfl ?_
    refine TE_store (i := 0) rfl Tryz.sizeOf32 trivial rfl rfl rfl rfl rfl rfl (.inr (by simp [srcM])) ?_
    refine TE_nil0 ?_
    refine pn_seq ?_
    refine pn_plain [] rfl ?_
    refine TE_q rfl rfl (RD.move rfl) rfl ?_
    refine TE_q rfl rfl (RD.assign rfl) rfl ?_
    refine TE_q rfl rfl (RD.assign rfl) rfl ?_
    refine TE_nil0 ?_
    refine pn_ret ?_
    exact pn_doneF rfl ⟨_, _, rfl, rfl, _, _, rfl, rfl, rfl⟩ (.inl ⟨_, _, _, _, H6, by simp only [rawD]; rw [if_neg (by omega)], rfl, hr, rfl, hb2, by simp⟩) (fun w h => Hp.perm (A := srcM s _ HX ++ H6) h List.perm_append_comm) (allA (Q := fun k => k ∈ keys (srcM s sv HX) ∨ _ ≤ k) (fun e he => .inr (hX6 e he)) in_src)

theorem c_left (HX : Mem) (s : Nat) (sv : Value) (ys : List UInt8) (w : World) (hb : Rdb HX sv ys) (hw : Hp (srcM s sv HX) w) : Calls Tryz.prog 73 #[.pointer (some ⟨s, 0, none⟩)] w (Ret w [] fun v H1 => v = .int .i64 ys.length ∧ H1 = []) := by
  refine fn_enter (args := [_]) Tryz.func73 rfl Tryz.ntmps73 rfl hw ?_
  refine pn_seq ?_
  refine pn_plain [] rfl ?_
  refine TE_q rfl rfl (RD.assign rfl) rfl ?_
  refine TE_nil0 ?_
  refine pn_seq ?_
  refine pn_seq ?_
  refine pn_plain [] rfl ?_
  refine TE_q rfl rfl (RD.move rfl) rfl ?_
  refine TE_q rfl rfl (RD.ptr_eql_nil Tryz.runUnderlying125 rfl rfl) rfl ?_
  refine TE_nil0 ?_
  refine pn_condF rfl ?_
  refine pn_skip ?_
  refine pn_seq ?_
  refine pn_plain [4] rfl ?_
  refine TE_q rfl rfl (RD.move rfl) rfl ?_
  refine TE_q rfl rfl (RD.nilCheckP rfl) rfl ?_
  refine TE_q rfl rfl (RD.fieldAddr (o := 0) Tryz.runUnderlying180 rfl rfl Tryz.sizeOf32 rfl) rfl ?_
  refine TE_l rfl rfl trivial rfl (RD.load (i := 0) Tryz.isAgg32 rfl rfl rfl) rfl ?_
  refine TE_q rfl rfl (RD.lenR Tryz.runUnderlying32 rfl hb) rfl ?_
  refine TE_q rfl rfl (RD.assign rfl) rfl ?_
  refine TE_nil0 ?_
  refine pn_ret ?_
  exact pn_done rfl rfl ⟨rfl, rfl⟩ (List.nil_sublist _) (by simp)

set_option maxHeartbeats 2000000 in
theorem c_bytes (HX : Mem) (s most : Nat) (sv : Value) (ys : List UInt8) (w : World) (hb : Rdb HX sv ys) (hlen : ys.length ≤ 2199023255552) (hm : most ≤ 9223372036854775807) (hw : Hp (srcM s sv HX) w) : Calls Tryz.prog 68 #[.pointer (some ⟨s, 0, none⟩), .int .i64 (most : Int)] w (Ret w (keys (srcM s sv HX)) (ReadsB HX s ys (bytesD most ys))) := by
  obtain ⟨a, c, rfl⟩ := hb.shape
  generalize hn : ys.length = n at *
  refine fn_enter (args := [_, _]) Tryz.func68 rfl Tryz.ntmps68 rfl hw ?_
  refine pn_seq ?_
  refine pn_plain [] rfl ?_
  refine TE_q rfl rfl (RD.assign rfl) rfl ?_
  refine TE_alloc rfl Tryz.zeroValue25 trivial rfl fun b5 hb5 => ?_
  refine TE_nil0 ?_
  refine pn_seq ?_
  refine pn_seq ?_
  refine pn_plain [] rfl ?_
  refine TE_q rfl rfl (RD.move rfl) rfl ?_
  refine TE_q rfl rfl (RD.ptr_eql_nil Tryz.runUnderlying125 rfl rfl) rfl ?_
  refine TE_nil0 ?_
  refine pn_condF rfl ?_
  refine pn_skip ?_
  refine pn_seq ?_
  refine pn_plain [] rfl ?_
  refine TE_q rfl rfl (RD.move rfl) rfl ?_
  refine TE_call rfl rfl trivial Tryz.call111 rfl rfl rfl (fun w hs' => c_back s b5 a n c w (hs'.hp.left.sub (.cons _ (.cons_cons _ (List.nil_sublist _))))) ?_
  rintro v10 H1 ⟨x2, x3, x5, rfl, rfl⟩ hxs
  refine TE_defer rfl trivial rfl rfl ?_
  refine TE_nil0 ?_
  refine pn_seq ?_
  refine pn_pickT [3, 0, 1, 2] [_, _, _, _] (srcM s (.slice a n c) HX) rfl rfl rfl ?_
  refine pn_plain [2, 3] rfl ?_
  refine TE_q rfl rfl (RD.move rfl) rfl ?_
  refine TE_q rfl rfl (RD.move rfl) rfl ?_
  refine TE_q rfl rfl (RD.as (RD.max2 rfl rfl) (show _ = Value.int .i64 (most : Int) by congr 1; split <;> omega)) rfl ?_
  refine TE_q rfl rfl (RD.as (RD.conv Tryz.runUnderlying3 Tryz.runUnderlying133 rfl) (u64_len (by omega))) rfl ?_
  refine TE_callT [_, _, _, _] (srcM s (.slice a n c) HX) rfl rfl rfl trivial Tryz.call112 rfl rfl rfl (fun e he => .inr (mem_keys.2 ⟨e, he, rfl⟩)) (fun w hs' => c_num HX s most _ ys w hb (by omega) (by omega) (hs'.hp.left.right (A := [_, _, _, _]))) ?_
  rintro v16 H4 (⟨k, r, v1, hd, rfl, rfl, hb1, hl1⟩ | ⟨e, v1, r, hd, he, rfl, rfl, hb1, hl1⟩) hX1
  all_goals refine TE_q rfl rfl (RD.move rfl) rfl ?_
  all_goals refine TE_q rfl rfl (RD.extract rfl rfl) rfl ?_
  all_goals refine TE_q rfl rfl (RD.extract rfl rfl) rfl ?_
  all_goals refine TE_q rfl rfl (RD.assign rfl) rfl ?_
  all_goals refine TE_store (i := 0) rfl Tryz.sizeOf25 trivial rfl rfl rfl rfl rfl rfl (.inl hb5) ?_
  all_goals refine TE_nil0 ?_
  all_goals refine pn_seq ?_
  all_goals refine pn_seq ?_
  all_goals refine pn_plain [] rfl ?_
  all_goals refine TE_l rfl rfl trivial rfl (RD.load (i := 0) Tryz.isAgg25 rfl rfl rfl) rfl ?_
  all_goals first | refine TE_q rfl rfl (RD.as (v := .bool true) (RD.neq rfl rfl) (by rw [decide_eq_false he]; rfl)) rfl ?_ | refine TE_q rfl rfl (RD.neq rfl rfl) rfl ?_
  all_goals refine TE_nil0 ?_
  all_goals first
    | (
        refine pn_condT rfl ?_
        refine pn_seq ?_
        refine pn_drawT [] [0] [1, 2, 3] [_, _, _, _] (srcM s v1 HX) rfl rfl (by kernel_rfl) (by kernel_rfl) rfl rfl ?_
        refine TE_l rfl rfl trivial rfl (RD.load (i := 0) Tryz.isAgg25 rfl rfl rfl) rfl ?_
        refine TE_q rfl rfl (RD.assign rfl) rfl ?_
        refine TE_store (i := 0) rfl Tryz.sizeOf25 trivial rfl rfl rfl rfl rfl rfl (.inl hb5) ?_
        refine TE_nil ?_
        refine pn_ret ?_
        obtain ⟨a9, c9, rfl⟩ := hb1.shape; exact lv_ret (lv_back (HX) (fun w h => (Hp.pickT (A := [_, _, _, _, _]) (T := HX) (is := [4, 1, 2, 3, 0]) (h) rfl rfl).perm (List.perm_append_comm (l₁ := [_]))) (hX1 (s, _) List.mem_cons_self) (lv_end rfl ⟨_, _, rfl, rfl, _, _, b5, 0, rfl, rfl, load_cell (i := 3) Tryz.isAgg25 rfl rfl, rfl⟩ (.inr ⟨e, _, ys, by simp only [bytesD, hd], he, rfl, rfl, by rw [if_neg he]; exact hb, by omega⟩) (fun w h => (Hp.pickT (A := [_, _, _, _, _]) (T := HX) (is := [0]) (h.perm (List.perm_append_comm (l₂ := [_]))) rfl rfl)) in_src)))
    | (
        refine pn_condF rfl ?_
        refine pn_skip ?_
        refine pn_seq ?_
        refine pn_plain [2] rfl ?_
        refine TE_q rfl rfl (RD.move rfl) rfl ?_
        refine TE_q rfl rfl (RD.move rfl) rfl ?_
        have hk := (numD_ok hd).2.1
        refine TE_q rfl rfl (RD.as (RD.conv Tryz.runUnderlying133 Tryz.runUnderlying3 rfl) (by rw [wrap64_id (by omega) (by omega)])) rfl ?_
        refine TE_callT [_, _, _, _] (srcM s v1 HX) rfl rfl rfl trivial Tryz.call110 rfl rfl rfl hX1 (fun w hs' => c_raw HX s k v1 r w hb1 (by omega) (hs'.hp.left.right (A := [_, _, _, _]))) ?_
        rintro v25 H3 (⟨b, r2, v2, x, H2, hd2, rfl, hr2, rfl, hb2, hl2⟩ | ⟨e, v2, r2, hd2, he, rfl, rfl, hb2, hl2⟩) hX2
        all_goals refine TE_q rfl rfl (RD.extract rfl rfl) rfl ?_
        all_goals refine TE_q rfl rfl (RD.extract rfl rfl) rfl ?_
        all_goals refine TE_q rfl rfl (RD.assign rfl) rfl ?_
        all_goals refine TE_store (i := 0) rfl Tryz.sizeOf25 trivial rfl rfl rfl rfl rfl rfl (.inl hb5) ?_
        all_goals refine TE_nil0 ?_
        all_goals refine pn_ret ?_
        all_goals (first | (obtain ⟨a9, c9, rfl⟩ := hb2.shape; exact lv_ret (lv_back (H2 ++ HX) (fun w h => (Hp.pickT (A := [_, _, _, _, _]) (T := H2 ++ HX) (is := [4, 1, 2, 3, 0]) (Hp.perm (A := [_, _, _, _] ++ (H2 ++ srcM s _ HX)) h (List.Perm.append_left _ List.perm_middle)) rfl rfl).perm (List.perm_append_comm (l₁ := [_]))) (hX2 (s, _) (List.mem_append_right _ List.mem_cons_self)) (lv_end rfl ⟨_, _, rfl, rfl, _, _, b5, 0, rfl, rfl, load_cell (i := 3) Tryz.isAgg25 rfl rfl, rfl⟩ (.inl ⟨b, r2, .slice a9 r2.length c9, x, H2, by simp only [bytesD, hd, hd2], rfl, hr2, rfl, hb2, by omega⟩) (fun w h => Hp.perm (A := (s, .cells #[.slice a9 r2.length c9] 180 (0, 0)) :: (H2 ++ HX)) ((Hp.pickT (A := [_, _, _, _, _]) (T := H2 ++ HX) (is := [0]) (h.perm (List.perm_append_comm (l₂ := [_]))) rfl rfl)) List.perm_middle.symm) (allA (Q := fun k => k ∈ _ ∨ _ ≤ k) (fun e he => (hX2 e (List.mem_append_left _ he)).symm) in_src)))) | (obtain ⟨a9, c9, rfl⟩ := hb2.shape; exact lv_ret (lv_back (HX) (fun w h => (Hp.pickT (A := [_, _, _, _, _]) (T := HX) (is := [4, 1, 2, 3, 0]) (h) rfl rfl).perm (List.perm_append_comm (l₁ := [_]))) (hX2 (s, _) List.mem_cons_self) (lv_end rfl ⟨_, _, rfl, rfl, _, _, b5, 0, rfl, rfl, load_cell (i := 3) Tryz.isAgg25 rfl rfl, rfl⟩ (.inr ⟨e, _, ys, by simp only [bytesD, hd, hd2], he, rfl, rfl, by rw [if_neg he]; exact hb, by omega⟩) (fun w h => (Hp.pickT (A := [_, _, _, _, _]) (T := HX) (is := [0]) (h.perm (List.perm_append_comm (l₂ := [_]))) rfl rfl)) in_src)))))
    | (
        first | refine pn_condD rfl (fun hc1 => ?_) (fun hc1 => ?_) | refine pn_condN rfl (fun hc1 => ?_) (fun hc1 => ?_) | refine pn_cond rfl (fun hc1 => ?_) (fun hc1 => ?_)
        · refine pn_seq ?_
          refine pn_drawT [] [0] [1, 2, 3] [_, _, _, _] (srcM s v1 HX) rfl rfl (by kernel_rfl) (by kernel_rfl) rfl rfl ?_
          refine TE_l rfl rfl trivial rfl (RD.load (i := 0) Tryz.isAgg25 rfl rfl rfl) rfl ?_
          refine TE_q rfl rfl (RD.assign rfl) rfl ?_
          refine TE_store (i := 0) rfl Tryz.sizeOf25 trivial rfl rfl rfl rfl rfl rfl (.inl hb5) ?_
          refine TE_nil ?_
          refine pn_ret ?_
          obtain ⟨a9, c9, rfl⟩ := hb1.shape; exact lv_ret (lv_back (HX) (fun w h => (Hp.pickT (A := [_, _, _, _, _]) (T := HX) (is := [4, 1, 2, 3, 0]) (h) rfl rfl).perm (List.perm_append_comm (l₁ := [_]))) (hX1 (s, _) List.mem_cons_self) (lv_end rfl ⟨_, _, rfl, rfl, _, _, b5, 0, rfl, rfl, load_cell (i := 3) Tryz.isAgg25 rfl rfl, rfl⟩ (.inr ⟨e, _, ys, by simp only [bytesD, hd], he, rfl, rfl, by rw [if_neg he]; exact hb, by omega⟩) (fun w h => (Hp.pickT (A := [_, _, _, _, _]) (T := HX) (is := [0]) (h.perm (List.perm_append_comm (l₂ := [_]))) rfl rfl)) in_src))
        · refine pn_skip ?_
          refine pn_seq ?_
          refine pn_plain [2] rfl ?_
          refine TE_q rfl rfl (RD.move rfl) rfl ?_
          refine TE_q rfl rfl (RD.move rfl) rfl ?_
          have hk := (numD_ok hd).2.1
          refine TE_q rfl rfl (RD.as (RD.conv Tryz.runUnderlying133 Tryz.runUnderlying3 rfl) (by rw [wrap64_id (by omega) (by omega)])) rfl ?_
          refine TE_callT [_, _, _, _] (srcM s v1 HX) rfl rfl rfl trivial Tryz.call110 rfl rfl rfl hX1 (fun w hs' => c_raw HX s k v1 r w hb1 (by omega) (hs'.hp.left.right (A := [_, _, _, _]))) ?_
          rintro v25 H3 (⟨b, r2, v2, x, H2, hd2, rfl, hr2, rfl, hb2, hl2⟩ | ⟨e, v2, r2, hd2, he, rfl, rfl, hb2, hl2⟩) hX2
          all_goals refine TE_q rfl rfl (RD.extract rfl rfl) rfl ?_
          all_goals refine TE_q rfl rfl (RD.extract rfl rfl) rfl ?_
          all_goals refine TE_q rfl rfl (RD.assign rfl) rfl ?_
          all_goals refine TE_store (i := 0) rfl Tryz.sizeOf25 trivial rfl rfl rfl rfl rfl rfl (.inl hb5) ?_
          all_goals refine TE_nil0 ?_
          all_goals refine pn_ret ?_
          all_goals (first | (obtain ⟨a9, c9, rfl⟩ := hb2.shape; exact lv_ret (lv_back (H2 ++ HX) (fun w h => (Hp.pickT (A := [_, _, _, _, _]) (T := H2 ++ HX) (is := [4, 1, 2, 3, 0]) (Hp.perm (A := [_, _, _, _] ++ (H2 ++ srcM s _ HX)) h (List.Perm.append_left _ List.perm_middle)) rfl rfl).perm (List.perm_append_comm (l₁ := [_]))) (hX2 (s, _) (List.mem_append_right _ List.mem_cons_self)) (lv_end rfl ⟨_, _, rfl, rfl, _, _, b5, 0, rfl, rfl, load_cell (i := 3) Tryz.isAgg25 rfl rfl, rfl⟩ (.inl ⟨b, r2, .slice a9 r2.length c9, x, H2, by simp only [bytesD, hd, hd2], rfl, hr2, rfl, hb2, by omega⟩) (fun w h => Hp.perm (A := (s, .cells #[.slice a9 r2.length c9] 180 (0, 0)) :: (H2 ++ HX)) ((Hp.pickT (A := [_, _, _, _, _]) (T := H2 ++ HX) (is := [0]) (h.perm (List.perm_append_comm (l₂ := [_]))) rfl rfl)) List.perm_middle.symm) (allA (Q := fun k => k ∈ _ ∨ _ ≤ k) (fun e he => (hX2 e (List.mem_append_left _ he)).symm) in_src)))) | (obtain ⟨a9, c9, rfl⟩ := hb2.shape; exact lv_ret (lv_back (HX) (fun w h => (Hp.pickT (A := [_, _, _, _, _]) (T := HX) (is := [4, 1, 2, 3, 0]) (h) rfl rfl).perm (List.perm_append_comm (l₁ := [_]))) (hX2 (s, _) List.mem_cons_self) (lv_end rfl ⟨_, _, rfl, rfl, _, _, b5, 0, rfl, rfl, load_cell (i := 3) Tryz.isAgg25 rfl rfl, rfl⟩ (.inr ⟨e, _, ys, by simp only [bytesD, hd, hd2], he, rfl, rfl, by rw [if_neg he]; exact hb, by omega⟩) (fun w h => (Hp.pickT (A := [_, _, _, _, _]) (T := HX) (is := [0]) (h.perm (List.perm_append_comm (l₂ := [_]))) rfl rfl)) in_src)))))

end Go.Proofs.YtloljpefdecmhaaGreatDoor

namespace Go.Proofs.YtloljpefdecmhaaGreatDoor
open Go Go.Mv
set_option maxRecDepth 8000
theorem elByteR : ElI Tryz.prog 5 1 1 (.int .u8 0) := by unfold ElI; kernel_rfl
end Go.Proofs.YtloljpefdecmhaaGreatDoor

namespace Go.Proofs.YtloljpefdecmhaaGreatDoor
open Go Go.Mv
set_option maxRecDepth 8000
/-- The dots that were met. -/
def MetOk (ds : List (Int × Int)) (l : List (ME (Int × Int) Int)) : Prop := ∀ k, mget k l = if k ∈ ds then some 1 else none
theorem MetOk.nil : MetOk [] [] := fun k => by simp [mget, mpos]
theorem MetOk.get {ds : List (Int × Int)} {l : List (ME (Int × Int) Int)} (h : MetOk ds l) (k : Int × Int) : (mget k l).getD 0 = if k ∈ ds then 1 else 0 := by
  rw [h k]; split <;> rfl
theorem MetOk.put {ds : List (Int × Int)} {l : List (ME (Int × Int) Int)} {c : Nat} (h : MetOk ds l) {k : Int × Int} (hk : k ∉ ds) : MetOk (ds ++ [k]) (mput k ((mget k l).getD 0 + 1) l c).1 := fun k' => by
  rw [mget_put, h.get, if_neg hk]
  by_cases h' : k' = k
  · subst h'; simp
  · rw [if_neg h', h k']; simp [h']

end Go.Proofs.YtloljpefdecmhaaGreatDoor

namespace Go.Proofs.YtloljpefdecmhaaGreatDoor
open Go Go.Mv Go.ChangeShapes
set_option maxRecDepth 100000
def intAt (cs : Array Value) (i : Nat) : Int := match cs[i]? with | some (.int _ n) => n | _ => 0
theorem has_u8 {n : Int} (h : IntKind.u8.has n) : 0 ≤ n ∧ n ≤ 255 := by simpa [IntKind.has, IntKind.min, IntKind.max, IntKind.signed, IntKind.bits] using h
section trod
variable {H : Type} {enc : TypeId × Value → H} {P : Program} {w : World} {base : Nat} {spare : Nat → Bool} {held : Bool}
theorem mapM_some {α β : Type} {f : α → Option β} : ∀ {l : List α} {r : List β}, l.mapM f = some r → ∀ a ∈ l, ∃ b, f a = some b
  | [], _, _, a, ha => by simp at ha
  | x :: l, r, h, a, ha => by
    simp only [List.mapM_cons, Option.bind_eq_bind, Option.bind_eq_some_iff, Option.pure_def, Option.some.injEq] at h
    obtain ⟨y, hy, ys, hys, _⟩ := h
    rcases List.mem_cons.1 ha with rfl | ha
    · exact ⟨y, hy⟩
    · exact mapM_some hys a ha
theorem mapM_at {β : Type} {f : Nat → Option β} : ∀ {n : Nat} {r : List β}, (List.range n).mapM f = some r → ∀ i, i < n → f i = r[i]?
  | n, r, h, i, hi => by
    have h2 : ∀ {l : List Nat} {r : List β}, l.mapM f = some r → ∀ (i : Nat) (a : Nat), l[i]? = some a → f a = r[i]? := by
      intro l
      induction l with
      | nil => intro r _ i a ha; simp at ha
      | cons x l ih =>
        intro r h i a ha
        simp only [List.mapM_cons, Option.bind_eq_bind, Option.bind_eq_some_iff, Option.pure_def, Option.some.injEq] at h
        obtain ⟨y, hy, ys, hys, rfl⟩ := h
        cases i with
        | zero => simp only [List.getElem?_cons_zero, Option.some.injEq] at ha ⊢; rw [← ha]; exact hy
        | succ i => rw [List.getElem?_cons_succ] at ha ⊢; exact ih hys i a ha
    exact h2 h i i (by simp [hi])
/-- A struct's field. -/
theorem trod_field {n : Nat} {t : TypeId} {cs : List Value} {x : DataW H × List MemPlace} {fs : Array Field} (ht : P.underlying t = some (.struct fs)) (h : DataW.trod enc P w base spare held n t cs = some x) :
    cs.length = P.cellsOf t ∧ ∀ (j : Nat) (f : Field), fs[j]? = some f → ∃ m y, DataW.trod enc P w base spare held m f.type ((cs.drop f.offset).take (P.cellsOf f.type)) = some y := by
  cases n with
  | zero => simp [DataW.trod] at h
  | succ n =>
    unfold DataW.trod at h
    rw [ht] at h
    simp only at h
    split at h
    · rename_i hl
      cases hm : (fs.toList.mapM fun f => DataW.trod enc P w base spare held n f.type ((cs.drop f.offset).take (P.cellsOf f.type))) with
      | none => rw [hm] at h; simp at h
      | some xs => exact ⟨hl, fun j f hf => ⟨n, mapM_some hm f (by simpa using Array.mem_of_getElem? hf)⟩⟩
    · cases h
theorem trod_elem {n len : Nat} {t e : TypeId} {cs : List Value} {x : DataW H × List MemPlace} (ht : P.underlying t = some (.array len e)) (h : DataW.trod enc P w base spare held n t cs = some x) :
    cs.length = P.cellsOf t ∧ ∀ j, j < len → ∃ m y, DataW.trod enc P w base spare held m e ((cs.drop (j * P.cellsOf e)).take (P.cellsOf e)) = some y := by
  cases n with
  | zero => simp [DataW.trod] at h
  | succ n =>
    unfold DataW.trod at h
    rw [ht] at h
    simp only at h
    split at h
    · rename_i hl
      cases hm : ((List.range len).mapM fun i => DataW.trod enc P w base spare held n e ((cs.drop (i * P.cellsOf e)).take (P.cellsOf e))) with
      | none => rw [hm] at h; simp at h
      | some xs => exact ⟨hl, fun j hj => ⟨n, mapM_some hm j (by simpa using hj)⟩⟩
    · cases h
theorem wf_has {k : IntKind} {n : Int} (h : (Lit.int k n).wf = true) : k.has n := by simpa [Lit.wf, IntKind.has] using h
theorem trod_ints {n len : Nat} {t e : TypeId} {k : IntKind} {cs : List Value} {x : DataW H × List MemPlace} (ht : P.underlying t = some (.array len e)) (he : P.underlying e = some (.int k)) (hc : P.cellsOf e = 1) (h : DataW.trod enc P w base spare held n t cs = some x) :
    cs.length = P.cellsOf t ∧ ∀ j, j < len → ∃ z, cs[j]? = some (.int k z) ∧ k.has z := by
  obtain ⟨hl, hj⟩ := trod_elem ht h
  refine ⟨hl, fun j hlt => ?_⟩
  obtain ⟨m, y, hy⟩ := hj j hlt
  rw [hc, Nat.mul_one] at hy
  obtain ⟨z, hz, _, hwf⟩ := DataW.trod_int he hy
  refine ⟨z, ?_, wf_has hwf⟩
  have := congrArg (fun l : List Value => l[0]?) hz
  simpa [List.getElem?_take, List.getElem?_drop] using this
theorem at0 {l : List Value} {o n : Nat} {v : Value} (h : (l.drop o).take n = [v]) : l[o]? = some v := by
  have := congrArg (fun l : List Value => l[0]?) h
  simp only [List.getElem?_cons_zero] at this
  rw [← this, List.getElem?_take, List.getElem?_drop]
  split
  · rfl
  · rename_i hn
    have : n = 0 := by omega
    subst this; simp at h
theorem atj {l : List Value} {o n j : Nat} (hj : j < n) : ((l.drop o).take n)[j]? = l[o + j]? := by rw [List.getElem?_take, if_pos hj, List.getElem?_drop]
end trod
theorem build_list {α : Type} {ok : α → Prop} {Q : Nat → α → Prop} : ∀ {n : Nat}, (∀ i, i < n → ∃ x, ok x ∧ Q i x) → ∃ l : List α, l.length = n ∧ (∀ x ∈ l, ok x) ∧ ∀ i x, l[i]? = some x → Q i x
  | 0, _ => ⟨[], rfl, by simp, by simp⟩
  | k + 1, each => by
    obtain ⟨l, h1, h2, h3⟩ := build_list (n := k) (fun i hi => each i (by omega))
    obtain ⟨x, hx, hxc⟩ := each k (by omega)
    refine ⟨l ++ [x], by simp [h1], fun y hy => ?_, fun i y hi => ?_⟩
    · rcases List.mem_append.1 hy with hy | hy
      · exact h2 y hy
      · simp only [List.mem_cons, List.not_mem_nil, or_false] at hy; subst hy; exact hx
    · by_cases hik : i < l.length
      · rw [List.getElem?_append_left hik] at hi; exact h3 i y hi
      · rw [List.getElem?_append_right (by omega)] at hi
        have h0 : i - l.length = 0 := by
          have := (List.getElem?_eq_some_iff.1 hi).1
          simp at this; omega
        rw [h0] at hi
        simp only [List.getElem?_cons_zero, Option.some.injEq] at hi
        subst hi
        have : i = k := by omega
        subst this; exact hxc
/-- Elements of several cells that come in. -/
theorem open_list {H : Type} {α : Type} {P : Program} {ec : α → List Value} {sz : Nat} {ok : α → Prop} {t e : TypeId} {enc : TypeId × Value → H} {W : World} {r : Reach} {b0 : Nat} {v : Value} {d : DataW H} {p : List MemPlace} (ht : P.underlying t = some (.slice e)) (hsz : P.cellsOf e = sz) (hs0 : 0 < sz) (hk : ∀ x, (ec x).length = sz)
    (hel : ∀ n cs x, DataW.trod enc P W 0 (fun _ => true) true n e cs = some x → ∃ a, cs = ec a ∧ ok a) (hval : Value.okWide P W r b0 t v) (h : DataW.Trod enc P W 0 (fun _ => true) true t v d p) (HZ : Mem) (hH : Hp HZ W) :
    ∃ HA l, Hp (HA ++ HZ) W ∧ Rdx sz ec (HA ++ HZ) v l ∧ (∀ x ∈ l, ok x) ∧ l.length ≤ 9223372036854775807 := by
  obtain ⟨a0, l0, c0, rfl⟩ := WideShapes.okWide_slice ht hval
  simp only [Value.okWide, ht, Cell.okWide, Cell.ok] at hval
  obtain ⟨n, hn⟩ := h
  rcases DataW.trod_slice ht hn with ⟨hcs, _⟩ | ⟨a, len, cap, elems, rest, m, _, hcs, _, _, hl, hm, hlen, hels, _, _⟩
  · simp [Value.cells] at hcs
    obtain ⟨rfl, rfl, rfl⟩ := hcs
    exact ⟨[], [], hH, .inl ⟨rfl, rfl⟩, by simp, by simp⟩
  · simp [Value.cells] at hcs
    obtain ⟨rfl, rfl, rfl⟩ := hcs
    obtain ⟨_, _, hhas⟩ := hval
    obtain ⟨_, hspot, _⟩ := hhas
    obtain ⟨bb, off, sp⟩ := a
    simp only at hspot
    subst hspot
    have hm63 : l0 ≤ 9223372036854775807 := by have : c0 ≤ 9223372036854775807 := hm; omega
    have each : ∀ i, i < l0 → ∃ x, ok x ∧ ∀ j u, (ec x)[j]? = some u → W.cell? ⟨bb, off + i * sz + j, none⟩ = some u := fun i hi => by
      have h1 := hels i hi
      have h2 : elems[i]? = some elems[i] := List.getElem?_eq_getElem (by omega)
      rw [h2] at h1
      cases hc : W.cells? 0 ((⟨bb, off, none⟩ : Addr).add (i * P.cellsOf e)) (P.cellsOf e) with
      | none => rw [hc] at h1; simp at h1
      | some cs =>
        rw [hc] at h1
        obtain ⟨x, rfl, hx⟩ := hel _ _ _ h1
        refine ⟨x, hx, fun j u hu => ?_⟩
        rw [hsz, add_none] at hc
        simp only [World.cells?, Nat.zero_le, if_true] at hc
        have hj : j < sz := by rw [← hk x]; exact (List.getElem?_eq_some_iff.1 hu).1
        have := mapM_at hc j hj
        rw [hu] at this
        simpa [add_none] using this
    have hx := build_list each
    obtain ⟨l, hll, hlo, hlc⟩ := hx
    subst hll
    by_cases h0 : l = []
    · subst h0
      exact ⟨[], [], hH, .inr ⟨bb, off, c0, rfl, Nat.zero_le _, by simp⟩, by simp, by simp⟩
    · have hpos : 0 < l.length := List.length_pos_iff.2 h0
      have hfirst := hlc 0 l[0] (List.getElem?_eq_getElem hpos) 0 ((ec l[0])[0]'(by rw [hk]; exact hs0)) (List.getElem?_eq_getElem _)
      have hblk : bb < W.heap.size := block_lt_of_cell hfirst
      have hbb : W.heap[bb]? = some W.heap[bb] := Array.getElem?_eq_getElem hblk
      have hcells : ∀ w : World, w.heap[bb]? = some W.heap[bb] → ∀ i x, l[i]? = some x → ∀ j u, (ec x)[j]? = some u → w.cell? ⟨bb, off + i * sz + j, none⟩ = some u := fun w hw i x hi j u hu => by
        rw [← hlc i x hi j u hu]
        exact World.cell?_of_block (hw.trans hbb.symm)
      by_cases hz : ∃ o, (bb, o) ∈ HZ
      · obtain ⟨o, ho⟩ := hz
        have : o = W.heap[bb] := Option.some.inj ((hH.at_ _ ho).symm.trans hbb)
        subst this
        exact ⟨[], l, hH, .inr ⟨bb, off, c0, rfl, hl, fun w hw => hcells w (hw.at_ _ ho)⟩, hlo, hm63⟩
      · refine ⟨[(bb, W.heap[bb])], l, ⟨fun e he => ?_, ?_⟩, .inr ⟨bb, off, c0, rfl, hl, fun w hw => hcells w (hw.at_ (bb, _) (by simp))⟩, hlo, hm63⟩
        · rcases List.mem_append.1 he with he | he
          · simp only [List.mem_cons, List.not_mem_nil, or_false] at he; subst he; exact hbb
          · exact hH.at_ e he
        · refine List.pairwise_cons.2 ⟨fun e he h => hz ⟨e.2, ?_⟩, hH.ne⟩
          have he2 : (bb, e.2) = e := Prod.ext h rfl
          rw [he2]; exact he

end Go.Proofs.YtloljpefdecmhaaGreatDoor

namespace Go.Proofs.YtloljpefdecmhaaGreatDoor
open Go Go.Mv
set_option maxRecDepth 8000
/-- Where a list has the first such one. -/
def IdxF (p : Rec → Bool) (l : List Rec) (n : Int) : Prop := (n = -1 ∧ ∀ x ∈ l, p x = false) ∨ ∃ (i : Nat) (x : Rec), n = i ∧ l[i]? = some x ∧ p x = true ∧ ∀ (j : Nat) (y : Rec), j < i → l[j]? = some y → p y = false
theorem IdxF.any {p : Rec → Bool} {l : List Rec} {n : Int} (h : IdxF p l n) : decide (n ≥ 0) = l.any p := by
  rcases h with ⟨rfl, h⟩ | ⟨i, x, rfl, hx, hp, _⟩
  · rw [List.any_eq_false.2 (fun x hx => by simp [h x hx])]; rfl
  · rw [List.any_eq_true.2 ⟨x, List.mem_of_getElem? hx, hp⟩]; exact decide_eq_true (by omega)

end Go.Proofs.YtloljpefdecmhaaGreatDoor

namespace Go.Proofs.YtloljpefdecmhaaGreatDoor
open Go Go.Mv
set_option maxRecDepth 8000
theorem c_bytesCmp (f g : Nat → Int) (b1 b2 : Nat) (w : World) (hf : IdOk f) (hg : IdOk g) (hH : Hp [(b1, .cells (idV f).cells 36 (0, 0)), (b2, .cells (idV g).cells 36 (0, 0))] w) : Calls Tryz.prog 125 #[.slice (some ⟨b1, 0, none⟩) 32 32, .slice (some ⟨b2, 0, none⟩) 32 32] w (Ret w [] fun v H1 => v = .int .i64 (idCmp f g) ∧ H1 = []) := by
  refine fn_enter (args := [_, _]) Tryz.func125 rfl Tryz.ntmps125 rfl hH ?_
  refine pn_seq ?_
  refine pn_plain [] rfl ?_
  refine TE_q rfl rfl (RD.assign rfl) rfl ?_
  refine TE_nil0 ?_
  refine pn_seq ?_
  refine pn_plain [] rfl ?_
  refine TE_q rfl rfl (RD.move rfl) rfl ?_
  refine TE_q rfl rfl (RD.move rfl) rfl ?_
  refine TE_l rfl rfl trivial rfl (RD.call_extern rfl rfl (fun w hw => run_cmpIds (o1 := 0) (o2 := 0) Tryz.func151 (by kernel_rfl) (by kernel_rfl) (by kernel_rfl) (by kernel_rfl) hf hg (id_slice (i := 0) hw rfl) (id_slice (i := 1) hw rfl))) rfl ?_
  refine TE_q rfl rfl (RD.assign rfl) rfl ?_
  refine TE_nil0 ?_
  refine pn_ret ?_
  exact pn_done rfl rfl ⟨rfl, rfl⟩ (List.nil_sublist _) (by simp)

theorem c_hashCmp (f g : Nat → Int) (w : World) (hf : IdOk f) (hg : IdOk g) : Calls Tryz.prog 92 #[idV f, idV g] w (Ret w [] fun v H1 => v = .int .i64 (idCmp f g) ∧ H1 = []) := by
  refine fn_enter (args := [_, _]) Tryz.func92 rfl Tryz.ntmps92 rfl (Hp.nil w) ?_
  refine pn_seq ?_
  refine pn_plain [] rfl ?_
  refine TE_box rfl rfl trivial rfl fun b2 hb2 => ?_
  refine TE_box rfl rfl trivial rfl fun b3 hb3 => ?_
  refine TE_q rfl rfl (RD.assign rfl) rfl ?_
  refine TE_nil0 ?_
  refine pn_seq ?_
  refine pn_seq ?_
  refine pn_plain [] rfl ?_
  refine TE_l rfl rfl trivial rfl (RD.loadA (i := 1) Tryz.isAgg36 Tryz.sizeOf36 rfl rfl (Nat.le_of_ble_eq_true rfl) (id_all _)) rfl ?_
  refine TE_l rfl rfl trivial rfl (RD.loadA (i := 0) Tryz.isAgg36 Tryz.sizeOf36 rfl rfl (Nat.le_of_ble_eq_true rfl) (id_all _)) rfl ?_
  refine TE_q rfl rfl (RD.eql_agg Tryz.eqGuardType36 (eq_id f g) rfl rfl) rfl ?_
  refine TE_nil0 ?_
  first | refine pn_condD rfl (fun hc0 => ?_) (fun hc0 => ?_) | refine pn_condN rfl (fun hc0 => ?_) (fun hc0 => ?_) | refine pn_cond rfl (fun hc0 => ?_) (fun hc0 => ?_)
  · refine pn_seq ?_
    refine pn_plain [] rfl ?_
    refine TE_q rfl rfl (RD.assign rfl) rfl ?_
    refine TE_nil0 ?_
    refine pn_ret ?_
    exact pn_done rfl rfl ⟨by rw [idCmp_zero.2 (sameN_iff.1 (by simpa using hc0))]; rfl, rfl⟩ (List.nil_sublist _) (by simp)
  · refine pn_skip ?_
    refine pn_seq ?_
    refine pn_draw [] [] [0, 1] rfl (by kernel_rfl) (by kernel_rfl) rfl rfl ?_
    refine TE_q rfl rfl (RD.sliceA Tryz.runUnderlying36 Tryz.sizeOf5 rfl rfl (Nat.le_refl _)) rfl ?_
    refine TE_q rfl rfl (RD.sliceA Tryz.runUnderlying36 Tryz.sizeOf5 rfl rfl (Nat.le_refl _)) rfl ?_
    refine TE_call rfl rfl trivial Tryz.call125 rfl rfl rfl (fun w hs' => c_bytesCmp f g b2 b3 w hf hg (hs'.hp.sp (fun a => by simp -failIfUnchanged <;> omega))) ?_
    rintro v10 H2 ⟨rfl, rfl⟩ -
    refine TE_q rfl rfl (RD.assign rfl) rfl ?_
    refine TE_nil ?_
    refine pn_ret ?_
    exact pn_done rfl rfl ⟨rfl, rfl⟩ (List.nil_sublist _) (by simp)

def sameIL : List (Nat → Int) → List (Nat → Int) → Bool
  | [], [] => true
  | x :: xs, y :: ys => sameN 32 x y && sameIL xs ys
  | _, _ => false
theorem sameIL_self : ∀ l : List (Nat → Int), sameIL l l = true
  | [] => rfl
  | x :: l => by simp [sameIL, sameN_iff.2 fun _ _ => rfl, sameIL_self l]
theorem elId : ElI Tryz.prog 36 32 32 (idV fun _ => 0) := by unfold ElI; kernel_rfl
end Go.Proofs.YtloljpefdecmhaaGreatDoor
