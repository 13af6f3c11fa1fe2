import Derived.Test.YtmjmaloapafnlaaGreatDoorGai
import Derived.Test.YtmjmaloapafnlaaGreatDoorSrt
import Derived.ProofKit
import Derived.OpenShut
import Derived.Deep.DeepHandedRow
import Derived.WideKeyArgs
import Derived.Lib.LaidTab
import Derived.SevenTiedAt
import Derived.ChangeSlices
namespace Go.Proofs.YtmjmaloapafnlaaGreatDoor
open Go.Proofs.Tryz
open Go Go.Mv
set_option maxRecDepth 8000
theorem lv_back {fn : Func} {C : Ctx} {R : Ending → World → Prop} {E : Env} {ds : List Deferred} {H : Mem} {s : Nat} {a a' : Option Addr} {n c n' c' b5 x2 x3 x5 : Nat} {ev : Int} (REST : Mem) (hH : ∀ w, Hp H w → Hp (([(x5, .cells #[.slice a n c] 32 (0, 0)), (x3, .cells #[.pointer (some ⟨b5, 0, none⟩)] 217 (0, 0)), (x2, .cells #[.pointer (some ⟨s, 0, none⟩)] 148 (0, 0)), (b5, .cells #[.int .i64 ev] 25 (0, 0))] ++ REST) ++ [(s, .cells #[.slice a' n' c'] 215 (0, 0))]) w) (hX : C.w0.heap.size ≤ s ∨ s ∈ C.X)
    (h : LV Tryz.prog fn C R E ds (([(x5, .cells #[.slice a n c] 32 (0, 0)), (x3, .cells #[.pointer (some ⟨b5, 0, none⟩)] 217 (0, 0)), (x2, .cells #[.pointer (some ⟨s, 0, none⟩)] 148 (0, 0)), (b5, .cells #[.int .i64 ev] 25 (0, 0))] ++ REST) ++ [(s, .cells #[if ev = 0 then .slice a' n' c' else .slice a n c] 215 (0, 0))])) : LV Tryz.prog fn C R E ({ target := .fn (.func 170) #[.pointer (some ⟨x3, 0, none⟩), .pointer (some ⟨x5, 0, none⟩), .pointer (some ⟨x2, 0, none⟩)], args := #[] } :: ds) H := by
  refine lv_call ([(x5, .cells #[.slice a n c] 32 (0, 0)), (x3, .cells #[.pointer (some ⟨b5, 0, none⟩)] 217 (0, 0)), (x2, .cells #[.pointer (some ⟨s, 0, none⟩)] 148 (0, 0)), (b5, .cells #[.int .i64 ev] 25 (0, 0))] ++ REST) [(s, .cells #[.slice a' n' c'] 215 (0, 0))] hH call170 (allC (Q := fun k => C.w0.heap.size ≤ k ∨ k ∈ C.X) hX (allN (Q := fun k => C.w0.heap.size ≤ k ∨ k ∈ C.X))) (fun w h => ?_) (post' := fun _ H1 => H1 = [(s, .cells #[if ev = 0 then .slice a' n' c' else .slice a n c] 215 (0, 0))]) ?_
  · exact c_back1 s b5 x2 x3 x5 a a' n c n' c' ev w (h.sub (List.Sublist.append_right (List.sublist_append_left _ _) _))
  · rintro v H1 rfl -
    exact h
/-- What reading bytes leaves. -/
def ReadsB (HX : Mem) (s : Nat) (ys : List UInt8) (d : Dr (List UInt8)) (v : Value) (H1 : Mem) : Prop :=
  (∃ b r v' x H2, d = .ok b r ∧ v = .tuple #[x, .int .i64 0] ∧ RetB 5 x H2 b ∧ H1 = H2 ++ srcM s v' HX ∧ Rdb HX v' r ∧ r.length ≤ ys.length) ∨
  (∃ e v' r, d = .err e ∧ e ≠ 0 ∧ v = .tuple #[.slice none 0 0, .int .i64 e] ∧ H1 = srcM s v' HX ∧ Rdb HX v' r ∧ r.length ≤ ys.length)

theorem c_raw (HX : Mem) (s n : Nat) (sv : Value) (ys : List UInt8) (w : World) (hb : Rdb HX sv ys) (hlen : ys.length ≤ 2199023255552) (hw : Hp (srcM s sv HX) w) : Calls Tryz.prog 135 #[.pointer (some ⟨s, 0, none⟩), .int .i64 (n : Int)] w (Ret w (keys (srcM s sv HX)) (ReadsB HX s ys (rawD n ys))) := by
 refine fn_enter (args := [_, _]) func135 rfl ntmps135 rfl hw (sq (pl (qa rfl (qa rfl (n0 (sq (pn_block (sq (pl ?_)))))))))
 refine qm rfl (qq rfl (RD.ptr_eql_nil runUnderlying148 rfl rfl) (qa rfl (n0 (pn_condF rfl (sq (pl (qm rfl (qq rfl (RD.as (v := .bool false) (RD.lss rfl rfl) (by rw [decide_eq_false (by omega)])) (qa rfl ?_)))))))))
 refine n0 (pn_condF rfl (sq (pn_plain [5] rfl (qm rfl (qm rfl (qn rfl (qq rfl (RD.fieldAddr (o := 0) runUnderlying215 rfl rfl sizeOf32 rfl) (ql rfl (RD.load (i := 0) isAgg32 rfl rfl rfl) (qq rfl (RD.lenR runUnderlying32 rfl hb) ?_)))))))))
 refine qq rfl (RD.gtr rfl rfl) (qa rfl (n0 ?_))
 first | refine pn_condD rfl (fun hc2 => ?_) (fun hc2 => ?_) | refine pn_condN rfl (fun hc2 => ?_) (fun hc2 => ?_) | refine pn_cond rfl (fun hc2 => ?_) (fun hc2 => ?_)
 ·exact sq (pl (qa rfl (qa rfl (n0 (rt (pn_doneF rfl ⟨_, _, rfl, rfl, _, _, rfl, rfl, rfl⟩ (.inr ⟨10, sv, ys, by simp only [rawD]; rw [if_pos (by omega)], by decide, rfl, rfl, hb, Nat.le_refl _⟩) (fun w h => h) in_src))))))
 ·refine sk (sq (pl (qm rfl ?_)))
  have hle : n ≤ ys.length := (by omega); have hb2 := hb.cut hle; obtain ⟨a2, c2, hs2⟩ := hb2.shape; rw [hs2] at hb2
  refine qn rfl (qq rfl (RD.fieldAddr (o := 0) runUnderlying215 rfl rfl sizeOf32 rfl) (ql rfl (RD.load (i := 0) isAgg32 rfl rfl rfl) (qm rfl (qq rfl (RD.sliceR (l := 0) (h := n) runUnderlying32 sizeOf5 rfl hb rfl ⟨_, rfl⟩ (Nat.zero_le _) hle) (TE_call rfl rfl trivial call132 rfl rfl rfl (fun w hs' => c_clone HX _ (ys.take n) w (hs'.hp.left.sub (List.sublist_cons_self _ _)) (by have := hb.sub (Nat.zero_le n) hle; rw [List.drop_zero] at this; exact this.bytes) (by rw [List.length_take]; omega)) ?_)))))
  rintro v27 H6 hr hX6
  refine qa rfl (n0 (sq (pn_perm (srcM s sv HX ++ H6) (fun w h => h.perm List.perm_append_comm) (pl (qm rfl (qm rfl (qn rfl (qq rfl (RD.fieldAddr (o := 0) runUnderlying215 rfl rfl sizeOf32 rfl) (ql rfl (RD.load (i := 0) isAgg32 rfl rfl rfl) ?_)))))))))
  refine qm rfl (qq rfl (RD.as (RD.sliceR (l := n) (h := ys.length) runUnderlying32 sizeOf5 rfl hb ⟨_, rfl⟩ rfl hle (Nat.le_refl _)) hs2) (qn rfl (qq rfl (RD.fieldAddr (o := 0) runUnderlying215 rfl rfl sizeOf32 rfl) (TE_store (i := 0) rfl sizeOf32 trivial rfl rfl rfl rfl rfl rfl (.inr (by simp [srcM])) (n0 (sq (pl (qm rfl (qa rfl ?_)))))))))
  exact qa rfl (n0 (rt (pn_doneF rfl ⟨_, _, rfl, rfl, _, _, rfl, rfl, rfl⟩ (.inl ⟨_, _, _, _, H6, by simp only [rawD]; rw [if_neg (by omega)], rfl, hr, rfl, hb2, by simp⟩) (fun w h => Hp.perm (A := srcM s _ HX ++ H6) h List.perm_append_comm) (allA (Q := fun k => k ∈ keys (srcM s sv HX) ∨ _ ≤ k) (fun e he => .inr (hX6 e he)) in_src))))
theorem c_left (HX : Mem) (s : Nat) (sv : Value) (ys : List UInt8) (w : World) (hb : Rdb HX sv ys) (hw : Hp (srcM s sv HX) w) : Calls Tryz.prog 89 #[.pointer (some ⟨s, 0, none⟩)] w (Ret w [] fun v H1 => v = .int .i64 ys.length ∧ H1 = []) := by
 refine fn_enter (args := [_]) func89 rfl ntmps89 rfl hw (sq (pl (qa rfl (n0 (sq (sq (pl (qm rfl (qq rfl (RD.ptr_eql_nil runUnderlying148 rfl rfl) ?_)))))))))
 refine n0 (pn_condF rfl (sk (sq (pn_plain [4] rfl (qm rfl (qn rfl (qq rfl (RD.fieldAddr (o := 0) runUnderlying215 rfl rfl sizeOf32 rfl) (ql rfl (RD.load (i := 0) isAgg32 rfl rfl rfl) (qq rfl (RD.lenR runUnderlying32 rfl hb) ?_)))))))))
 exact qa rfl (n0 (rt (pn_done rfl rfl ⟨rfl, rfl⟩ (List.nil_sublist _) (by simp))))
set_option maxHeartbeats 2000000 in
theorem c_bytes (HX : Mem) (s most : Nat) (sv : Value) (ys : List UInt8) (w : World) (hb : Rdb HX sv ys) (hlen : ys.length ≤ 2199023255552) (hm : most ≤ 9223372036854775807) (hw : Hp (srcM s sv HX) w) : Calls Tryz.prog 84 #[.pointer (some ⟨s, 0, none⟩), .int .i64 (most : Int)] w (Ret w (keys (srcM s sv HX)) (ReadsB HX s ys (bytesD most ys))) := by
 obtain ⟨a, c, rfl⟩ := hb.shape
 generalize hn : ys.length = n at *
 refine fn_enter (args := [_, _]) func84 rfl ntmps84 rfl hw (sq (pl (qa rfl (TE_alloc rfl zeroValue25 trivial rfl fun b5 hb5 => (n0 (sq (sq (pl (qm rfl ?_)))))))))
 refine qq rfl (RD.ptr_eql_nil runUnderlying148 rfl rfl) (n0 (pn_condF rfl (sk (sq (pl (qm rfl (TE_call rfl rfl trivial call136 rfl rfl rfl (fun w hs' => c_back s b5 a n c w (hs'.hp.left.sub (.cons _ (.cons_cons _ (List.nil_sublist _))))) ?_)))))))
 rintro v10 H1 ⟨x2, x3, x5, rfl, rfl⟩ hxs
 refine TE_defer rfl trivial rfl rfl (n0 (sq (pn_pickT [3, 0, 1, 2] [_, _, _, _] (srcM s (.slice a n c) HX) rfl rfl rfl (pn_plain [2, 3] rfl (qm rfl (qm rfl (qq rfl (RD.as (RD.max2 rfl rfl) (show _ = Value.int .i64 (most : Int) by congr 1; split <;> omega)) (qq rfl (RD.as (RD.conv runUnderlying3 runUnderlying120 rfl) (u64_len (by omega))) (TE_callT [_, _, _, _] (srcM s (.slice a n c) HX) rfl rfl rfl trivial call137 rfl rfl rfl (fun e he => .inr (mem_keys.2 ⟨e, he, rfl⟩)) (fun w hs' => c_num HX s most _ ys w hb (by omega) (by omega) (hs'.hp.left.right (A := [_, _, _, _]))) ?_)))))))))
 rintro v16 H4 (⟨k, r, v1, hd, rfl, rfl, hb1, hl1⟩ | ⟨e, v1, r, hd, he, rfl, rfl, hb1, hl1⟩) hX1
 all_goals refine TE_q rfl rfl (RD.move rfl) rfl ?_
 all_goals refine TE_q rfl rfl (RD.extract rfl rfl) rfl ?_
 all_goals refine TE_q rfl rfl (RD.extract rfl rfl) rfl ?_
 all_goals refine TE_q rfl rfl (RD.assign rfl) rfl ?_
 all_goals refine TE_store (i := 0) rfl sizeOf25 trivial rfl rfl rfl rfl rfl rfl (.inl hb5) ?_
 all_goals refine TE_nil0 ?_
 all_goals refine pn_seq ?_
 all_goals refine pn_seq ?_
 all_goals refine pn_plain [] rfl ?_
 all_goals refine TE_l rfl rfl trivial rfl (RD.load (i := 0) isAgg25 rfl rfl rfl) rfl ?_
 all_goals first | refine TE_q rfl rfl (RD.as (v := .bool true) (RD.neq rfl rfl) (by rw [decide_eq_false he]; rfl)) rfl ?_ | refine TE_q rfl rfl (RD.neq rfl rfl) rfl ?_
 all_goals refine TE_nil0 ?_
 all_goals first
  | (
    refine pn_condT rfl (sq (pn_drawT [] [0] [1, 2, 3] [_, _, _, _] (srcM s v1 HX) rfl rfl (by kernel_rfl) (by kernel_rfl) rfl rfl (ql rfl (RD.load (i := 0) isAgg25 rfl rfl rfl) (qa rfl (TE_store (i := 0) rfl sizeOf25 trivial rfl rfl rfl rfl rfl rfl (.inl hb5) (TE_nil (rt ?_)))))))
    obtain ⟨a9, c9, rfl⟩ := hb1.shape; exact lv_ret (lv_back (HX) (fun w h => (Hp.pickT (A := [_, _, _, _, _]) (T := HX) (is := [4, 1, 2, 3, 0]) (h) rfl rfl).perm (List.perm_append_comm (l₁ := [_]))) (hX1 (s, _) List.mem_cons_self) (lv_end rfl ⟨_, _, rfl, rfl, _, _, b5, 0, rfl, rfl, load_cell (i := 3) isAgg25 rfl rfl, rfl⟩ (.inr ⟨e, _, ys, by simp only [bytesD, hd], he, rfl, rfl, by rw [if_neg he]; exact hb, by omega⟩) (fun w h => (Hp.pickT (A := [_, _, _, _, _]) (T := HX) (is := [0]) (h.perm (List.perm_append_comm (l₂ := [_]))) rfl rfl)) in_src)))
  | (
    refine pn_condF rfl (sk (sq (pn_plain [2] rfl (qm rfl (qm rfl ?_)))))
    have hk := (numD_ok hd).2.1
    refine qq rfl (RD.as (RD.conv runUnderlying120 runUnderlying3 rfl) (by rw [wrap64_id (by omega) (by omega)])) (TE_callT [_, _, _, _] (srcM s v1 HX) rfl rfl rfl trivial call135 rfl rfl rfl hX1 (fun w hs' => c_raw HX s k v1 r w hb1 (by omega) (hs'.hp.left.right (A := [_, _, _, _]))) ?_)
    rintro v25 H3 (⟨b, r2, v2, x, H2, hd2, rfl, hr2, rfl, hb2, hl2⟩ | ⟨e, v2, r2, hd2, he, rfl, rfl, hb2, hl2⟩) hX2
    all_goals refine TE_q rfl rfl (RD.extract rfl rfl) rfl ?_
    all_goals refine TE_q rfl rfl (RD.extract rfl rfl) rfl ?_
    all_goals refine TE_q rfl rfl (RD.assign rfl) rfl ?_
    all_goals refine TE_store (i := 0) rfl sizeOf25 trivial rfl rfl rfl rfl rfl rfl (.inl hb5) ?_
    all_goals refine TE_nil0 ?_
    all_goals refine pn_ret ?_
    all_goals (first | (obtain ⟨a9, c9, rfl⟩ := hb2.shape; exact lv_ret (lv_back (H2 ++ HX) (fun w h => (Hp.pickT (A := [_, _, _, _, _]) (T := H2 ++ HX) (is := [4, 1, 2, 3, 0]) (Hp.perm (A := [_, _, _, _] ++ (H2 ++ srcM s _ HX)) h (List.Perm.append_left _ List.perm_middle)) rfl rfl).perm (List.perm_append_comm (l₁ := [_]))) (hX2 (s, _) (List.mem_append_right _ List.mem_cons_self)) (lv_end rfl ⟨_, _, rfl, rfl, _, _, b5, 0, rfl, rfl, load_cell (i := 3) isAgg25 rfl rfl, rfl⟩ (.inl ⟨b, r2, .slice a9 r2.length c9, x, H2, by simp only [bytesD, hd, hd2], rfl, hr2, rfl, hb2, by omega⟩) (fun w h => Hp.perm (A := (s, .cells #[.slice a9 r2.length c9] 215 (0, 0)) :: (H2 ++ HX)) ((Hp.pickT (A := [_, _, _, _, _]) (T := H2 ++ HX) (is := [0]) (h.perm (List.perm_append_comm (l₂ := [_]))) rfl rfl)) List.perm_middle.symm) (allA (Q := fun k => k ∈ _ ∨ _ ≤ k) (fun e he => (hX2 e (List.mem_append_left _ he)).symm) in_src)))) | (obtain ⟨a9, c9, rfl⟩ := hb2.shape; exact lv_ret (lv_back (HX) (fun w h => (Hp.pickT (A := [_, _, _, _, _]) (T := HX) (is := [4, 1, 2, 3, 0]) (h) rfl rfl).perm (List.perm_append_comm (l₁ := [_]))) (hX2 (s, _) List.mem_cons_self) (lv_end rfl ⟨_, _, rfl, rfl, _, _, b5, 0, rfl, rfl, load_cell (i := 3) isAgg25 rfl rfl, rfl⟩ (.inr ⟨e, _, ys, by simp only [bytesD, hd, hd2], he, rfl, rfl, by rw [if_neg he]; exact hb, by omega⟩) (fun w h => (Hp.pickT (A := [_, _, _, _, _]) (T := HX) (is := [0]) (h.perm (List.perm_append_comm (l₂ := [_]))) rfl rfl)) in_src)))))
  | (
    first | refine pn_condD rfl (fun hc1 => ?_) (fun hc1 => ?_) | refine pn_condN rfl (fun hc1 => ?_) (fun hc1 => ?_) | refine pn_cond rfl (fun hc1 => ?_) (fun hc1 => ?_)
    ·refine sq (pn_drawT [] [0] [1, 2, 3] [_, _, _, _] (srcM s v1 HX) rfl rfl (by kernel_rfl) (by kernel_rfl) rfl rfl (ql rfl (RD.load (i := 0) isAgg25 rfl rfl rfl) (qa rfl (TE_store (i := 0) rfl sizeOf25 trivial rfl rfl rfl rfl rfl rfl (.inl hb5) (TE_nil (rt ?_))))))
     obtain ⟨a9, c9, rfl⟩ := hb1.shape; exact lv_ret (lv_back (HX) (fun w h => (Hp.pickT (A := [_, _, _, _, _]) (T := HX) (is := [4, 1, 2, 3, 0]) (h) rfl rfl).perm (List.perm_append_comm (l₁ := [_]))) (hX1 (s, _) List.mem_cons_self) (lv_end rfl ⟨_, _, rfl, rfl, _, _, b5, 0, rfl, rfl, load_cell (i := 3) isAgg25 rfl rfl, rfl⟩ (.inr ⟨e, _, ys, by simp only [bytesD, hd], he, rfl, rfl, by rw [if_neg he]; exact hb, by omega⟩) (fun w h => (Hp.pickT (A := [_, _, _, _, _]) (T := HX) (is := [0]) (h.perm (List.perm_append_comm (l₂ := [_]))) rfl rfl)) in_src))
    ·refine sk (sq (pn_plain [2] rfl (qm rfl (qm rfl ?_))))
     have hk := (numD_ok hd).2.1
     refine qq rfl (RD.as (RD.conv runUnderlying120 runUnderlying3 rfl) (by rw [wrap64_id (by omega) (by omega)])) (TE_callT [_, _, _, _] (srcM s v1 HX) rfl rfl rfl trivial call135 rfl rfl rfl hX1 (fun w hs' => c_raw HX s k v1 r w hb1 (by omega) (hs'.hp.left.right (A := [_, _, _, _]))) ?_)
     rintro v25 H3 (⟨b, r2, v2, x, H2, hd2, rfl, hr2, rfl, hb2, hl2⟩ | ⟨e, v2, r2, hd2, he, rfl, rfl, hb2, hl2⟩) hX2
     all_goals refine TE_q rfl rfl (RD.extract rfl rfl) rfl ?_
     all_goals refine TE_q rfl rfl (RD.extract rfl rfl) rfl ?_
     all_goals refine TE_q rfl rfl (RD.assign rfl) rfl ?_
     all_goals refine TE_store (i := 0) rfl sizeOf25 trivial rfl rfl rfl rfl rfl rfl (.inl hb5) ?_
     all_goals refine TE_nil0 ?_
     all_goals refine pn_ret ?_
     all_goals (first | (obtain ⟨a9, c9, rfl⟩ := hb2.shape; exact lv_ret (lv_back (H2 ++ HX) (fun w h => (Hp.pickT (A := [_, _, _, _, _]) (T := H2 ++ HX) (is := [4, 1, 2, 3, 0]) (Hp.perm (A := [_, _, _, _] ++ (H2 ++ srcM s _ HX)) h (List.Perm.append_left _ List.perm_middle)) rfl rfl).perm (List.perm_append_comm (l₁ := [_]))) (hX2 (s, _) (List.mem_append_right _ List.mem_cons_self)) (lv_end rfl ⟨_, _, rfl, rfl, _, _, b5, 0, rfl, rfl, load_cell (i := 3) isAgg25 rfl rfl, rfl⟩ (.inl ⟨b, r2, .slice a9 r2.length c9, x, H2, by simp only [bytesD, hd, hd2], rfl, hr2, rfl, hb2, by omega⟩) (fun w h => Hp.perm (A := (s, .cells #[.slice a9 r2.length c9] 215 (0, 0)) :: (H2 ++ HX)) ((Hp.pickT (A := [_, _, _, _, _]) (T := H2 ++ HX) (is := [0]) (h.perm (List.perm_append_comm (l₂ := [_]))) rfl rfl)) List.perm_middle.symm) (allA (Q := fun k => k ∈ _ ∨ _ ≤ k) (fun e he => (hX2 e (List.mem_append_left _ he)).symm) in_src)))) | (obtain ⟨a9, c9, rfl⟩ := hb2.shape; exact lv_ret (lv_back (HX) (fun w h => (Hp.pickT (A := [_, _, _, _, _]) (T := HX) (is := [4, 1, 2, 3, 0]) (h) rfl rfl).perm (List.perm_append_comm (l₁ := [_]))) (hX2 (s, _) List.mem_cons_self) (lv_end rfl ⟨_, _, rfl, rfl, _, _, b5, 0, rfl, rfl, load_cell (i := 3) isAgg25 rfl rfl, rfl⟩ (.inr ⟨e, _, ys, by simp only [bytesD, hd, hd2], he, rfl, rfl, by rw [if_neg he]; exact hb, by omega⟩) (fun w h => (Hp.pickT (A := [_, _, _, _, _]) (T := HX) (is := [0]) (h.perm (List.perm_append_comm (l₂ := [_]))) rfl rfl)) in_src)))))
end Go.Proofs.YtmjmaloapafnlaaGreatDoor

namespace Go.Proofs.YtmjmaloapafnlaaGreatDoor
open Go Go.Mv
set_option maxRecDepth 8000
theorem elByteR : ElI Tryz.prog 5 1 1 (.int .u8 0) := by unfold ElI; kernel_rfl
end Go.Proofs.YtmjmaloapafnlaaGreatDoor

namespace Go.Proofs.YtmjmaloapafnlaaGreatDoor
open Go Go.Mv
set_option maxRecDepth 8000
theorem take_zero {l : List Int} {i : Nat} (hi : i < l.length) (h : ∀ y ∈ l.take i, y = 0) (hx : l[i] = 0) : ∀ y ∈ l.take (i + 1), y = 0 := fun y hy => by
  rw [List.take_succ_eq_append_getElem hi] at hy
  rcases List.mem_append.1 hy with hy | hy
  · exact h y hy
  · simp only [List.mem_cons, List.not_mem_nil, or_false] at hy; rw [hy]; exact hx

end Go.Proofs.YtmjmaloapafnlaaGreatDoor

namespace Go.Proofs.YtmjmaloapafnlaaGreatDoor
open Go Go.Mv
set_option maxRecDepth 8000
/-- The dots that were met. -/
def MetOk (ds : List (Int × Int)) (l : List (ME (Int × Int) Int)) : Prop := ∀ k, mget k l = if k ∈ ds then some 1 else none
theorem MetOk.nil : MetOk [] [] := fun k => by simp [mget, mpos]
theorem MetOk.get {ds : List (Int × Int)} {l : List (ME (Int × Int) Int)} (h : MetOk ds l) (k : Int × Int) : (mget k l).getD 0 = if k ∈ ds then 1 else 0 := by
  rw [h k]; split <;> rfl
theorem MetOk.put {ds : List (Int × Int)} {l : List (ME (Int × Int) Int)} {c : Nat} (h : MetOk ds l) {k : Int × Int} (hk : k ∉ ds) : MetOk (ds ++ [k]) (mput k ((mget k l).getD 0 + 1) l c).1 := fun k' => by
  rw [mget_put, h.get, if_neg hk]
  by_cases h' : k' = k
  · subst h'; simp
  · rw [if_neg h', h k']; simp [h']

end Go.Proofs.YtmjmaloapafnlaaGreatDoor

namespace Go.Proofs.YtmjmaloapafnlaaGreatDoor
open Go Go.Mv Go.ChangeShapes
set_option maxRecDepth 100000
theorem okInt {P : Program} {W : World} {r : Reach} {b0 : Nat} {u : TypeId} {k : IntKind} {v : Value} (hu : P.underlying u = some (.int k)) (h : Cell.okWide P W r b0 u v) : ∃ n, v = .int k n ∧ k.has n := by
  simp only [Cell.okWide, hu] at h
  cases v <;> simp [Cell.ok, hu] at h
  obtain ⟨rfl, h⟩ := h
  exact ⟨_, rfl, h⟩
theorem has_u8 {n : Int} (h : IntKind.u8.has n) : 0 ≤ n ∧ n ≤ 255 := by simpa [IntKind.has, IntKind.min, IntKind.max, IntKind.signed, IntKind.bits] using h
section trod
variable {H : Type} {enc : TypeId × Value → H} {P : Program} {w : World} {base : Nat} {spare : Nat → Bool} {held : Bool}
theorem mapM_some {α β : Type} {f : α → Option β} : ∀ {l : List α} {r : List β}, l.mapM f = some r → ∀ a ∈ l, ∃ b, f a = some b
  | [], _, _, a, ha => by simp at ha
  | x :: l, r, h, a, ha => by
    simp only [List.mapM_cons, Option.bind_eq_bind, Option.bind_eq_some_iff, Option.pure_def, Option.some.injEq] at h
    obtain ⟨y, hy, ys, hys, _⟩ := h
    rcases List.mem_cons.1 ha with rfl | ha
    · exact ⟨y, hy⟩
    · exact mapM_some hys a ha
theorem mapM_at {β : Type} {f : Nat → Option β} : ∀ {n : Nat} {r : List β}, (List.range n).mapM f = some r → ∀ i, i < n → f i = r[i]?
  | n, r, h, i, hi => by
    have h2 : ∀ {l : List Nat} {r : List β}, l.mapM f = some r → ∀ (i : Nat) (a : Nat), l[i]? = some a → f a = r[i]? := by
      intro l
      induction l with
      | nil => intro r _ i a ha; simp at ha
      | cons x l ih =>
        intro r h i a ha
        simp only [List.mapM_cons, Option.bind_eq_bind, Option.bind_eq_some_iff, Option.pure_def, Option.some.injEq] at h
        obtain ⟨y, hy, ys, hys, rfl⟩ := h
        cases i with
        | zero => simp only [List.getElem?_cons_zero, Option.some.injEq] at ha ⊢; rw [← ha]; exact hy
        | succ i => rw [List.getElem?_cons_succ] at ha ⊢; exact ih hys i a ha
    exact h2 h i i (by simp [hi])
/-- A struct's field. -/
theorem trod_field {n : Nat} {t : TypeId} {cs : List Value} {x : DataW H × List MemPlace} {fs : Array Field} (ht : P.underlying t = some (.struct fs)) (h : DataW.trod enc P w base spare held n t cs = some x) :
    cs.length = P.cellsOf t ∧ ∀ (j : Nat) (f : Field), fs[j]? = some f → ∃ m y, DataW.trod enc P w base spare held m f.type ((cs.drop f.offset).take (P.cellsOf f.type)) = some y := by
  cases n with
  | zero => simp [DataW.trod] at h
  | succ n =>
    unfold DataW.trod at h
    rw [ht] at h
    simp only at h
    split at h
    · rename_i hl
      cases hm : (fs.toList.mapM fun f => DataW.trod enc P w base spare held n f.type ((cs.drop f.offset).take (P.cellsOf f.type))) with
      | none => rw [hm] at h; simp at h
      | some xs => exact ⟨hl, fun j f hf => ⟨n, mapM_some hm f (by simpa using Array.mem_of_getElem? hf)⟩⟩
    · cases h
theorem wf_has {k : IntKind} {n : Int} (h : (Lit.int k n).wf = true) : k.has n := by simpa [Lit.wf, IntKind.has] using h
theorem at0 {l : List Value} {o n : Nat} {v : Value} (h : (l.drop o).take n = [v]) : l[o]? = some v := by
  have := congrArg (fun l : List Value => l[0]?) h
  simp only [List.getElem?_cons_zero] at this
  rw [← this, List.getElem?_take, List.getElem?_drop]
  split
  · rfl
  · rename_i hn
    have : n = 0 := by omega
    subst this; simp at h
end trod
theorem build_list {α : Type} {ok : α → Prop} {Q : Nat → α → Prop} : ∀ {n : Nat}, (∀ i, i < n → ∃ x, ok x ∧ Q i x) → ∃ l : List α, l.length = n ∧ (∀ x ∈ l, ok x) ∧ ∀ i x, l[i]? = some x → Q i x
  | 0, _ => ⟨[], rfl, by simp, by simp⟩
  | k + 1, each => by
    obtain ⟨l, h1, h2, h3⟩ := build_list (n := k) (fun i hi => each i (by omega))
    obtain ⟨x, hx, hxc⟩ := each k (by omega)
    refine ⟨l ++ [x], by simp [h1], fun y hy => ?_, fun i y hi => ?_⟩
    · rcases List.mem_append.1 hy with hy | hy
      · exact h2 y hy
      · simp only [List.mem_cons, List.not_mem_nil, or_false] at hy; subst hy; exact hx
    · by_cases hik : i < l.length
      · rw [List.getElem?_append_left hik] at hi; exact h3 i y hi
      · rw [List.getElem?_append_right (by omega)] at hi
        have h0 : i - l.length = 0 := by
          have := (List.getElem?_eq_some_iff.1 hi).1
          simp at this; omega
        rw [h0] at hi
        simp only [List.getElem?_cons_zero, Option.some.injEq] at hi
        subst hi
        have : i = k := by omega
        subst this; exact hxc
end Go.Proofs.YtmjmaloapafnlaaGreatDoor

namespace Go.Proofs.YtmjmaloapafnlaaGreatDoor
open Go Go.Mv Go.ChangeShapes
set_option maxRecDepth 100000
/-- A slice of bytes that stands in a cell, and its bytes. -/
structure BSl where
  a : Option Addr
  c : Nat
  b : List UInt8
def BSl.v (x : BSl) : Value := .slice x.a x.b.length x.c
def bsC (x : BSl) : List Value := [.slice x.a x.b.length x.c]
theorem bsC_len (x : BSl) : (bsC x).length = 1 := rfl
theorem bsC_one (x : BSl) : ∀ v ∈ bsC x, v.oneCell' = true := by intro v hv; simp only [bsC, List.mem_cons, List.not_mem_nil, or_false] at hv; subst hv; rfl
instance : Inhabited BSl := ⟨⟨none, 0, []⟩⟩
/-- All of these can be read. -/
def BsOk (H : Mem) (l : List BSl) : Prop := ∀ x ∈ l, Rdb H x.v x.b
theorem BsOk.mono {H H' : Mem} {l : List BSl} (h : BsOk H l) (hs : ∀ w, Hp H' w → Hp H w) : BsOk H' l := fun x hx => (h x hx).mono hs

/-- A slice whose elements can be read, wherever it stands. -/
theorem open_slT {H : Type} {α : Type} {P : Program} {ec : α → List Value} {sz : Nat} {ok : α → Prop} {t e : TypeId} {enc : TypeId × Value → H} {W : World} {n : Nat} {v : Value} {y : DataW H × List MemPlace} (ht : P.underlying t = some (.slice e)) (hsz : P.cellsOf e = sz) (hs0 : 0 < sz) (hk : ∀ x, (ec x).length = sz)
    (hel : ∀ n cs x, DataW.trod enc P W 0 (fun _ => true) true n e cs = some x → ∃ a, cs = ec a ∧ ok a) (hn : DataW.trod enc P W 0 (fun _ => true) true n t [v] = some y) (HZ : Mem) (hH : Hp HZ W) :
    ∃ HA l, Hp (HA ++ HZ) W ∧ Rdx sz ec (HA ++ HZ) v l ∧ (∀ x ∈ l, ok x) ∧ l.length ≤ 9223372036854775807 := by
  rcases DataW.trod_slice ht hn with ⟨hcs, _⟩ | ⟨a, len, cap, elems, rest, m, _, hcs, _, _, hl, hm, hlen, hels, hrest, _⟩
  · obtain rfl := (List.cons.inj hcs).1
    exact ⟨[], [], hH, Rdx.nil, by simp, by simp⟩
  · obtain rfl := (List.cons.inj hcs).1
    have hm63 : len ≤ 9223372036854775807 := by have : cap ≤ 9223372036854775807 := hm; omega
    by_cases hc0 : cap = 0
    · subst hc0
      obtain rfl : len = 0 := by omega
      exact ⟨[], [], hH, .inl ⟨⟨_, rfl⟩, rfl⟩, by simp, by simp⟩
    · have hcell0 : ∃ u, W.cell? a = some u := by
        have hz : ∃ cs, W.cells? 0 (a.add (0 * P.cellsOf e)) (P.cellsOf e) = some cs := by
          by_cases h0 : 0 < len
          · have h1 := hels 0 h0
            cases hc : W.cells? 0 (a.add (0 * P.cellsOf e)) (P.cellsOf e) with
            | none => rw [hc, List.getElem?_eq_getElem (by omega)] at h1; simp at h1
            | some cs => exact ⟨cs, rfl⟩
          · obtain rfl : len = 0 := by omega
            obtain ⟨hr, hr2⟩ := hrest rfl
            have h1 := hr2 0 (by omega)
            cases hc : W.cells? 0 (a.add ((0 + 0) * P.cellsOf e)) (P.cellsOf e) with
            | none => rw [hc, List.getElem?_eq_getElem (by omega)] at h1; simp at h1
            | some cs => exact ⟨cs, by simp⟩
        obtain ⟨cs, hcs⟩ := hz
        rw [hsz, Nat.zero_mul] at hcs
        simp only [World.cells?, Nat.zero_le, if_true] at hcs
        have := mapM_at hcs 0 hs0
        have e0 : ∀ b : Addr, b.add 0 = b := fun b => rfl
        rw [e0, e0] at this
        have hl1 : cs.length = sz := by
          have h2 : ∀ {l : List Nat} {f : Nat → Option Value} {r : List Value}, l.mapM f = some r → r.length = l.length := by
            intro l
            induction l with
            | nil => intro f r h; simp only [List.mapM_nil, Option.pure_def, Option.some.injEq] at h; subst h; rfl
            | cons x l ih =>
              intro f r h
              simp only [List.mapM_cons, Option.bind_eq_bind, Option.bind_eq_some_iff, Option.pure_def, Option.some.injEq] at h
              obtain ⟨y, _, ys, hys, rfl⟩ := h
              simp [ih hys]
          rw [h2 hcs, List.length_range]
        rw [List.getElem?_eq_getElem (by omega)] at this
        exact ⟨_, this⟩
      obtain ⟨u0, hu0⟩ := hcell0
      have hspot := World.cell?_spot hu0
      obtain ⟨bb, off, sp⟩ := a
      simp only at hspot
      subst hspot
      have each : ∀ i, i < len → ∃ x, ok x ∧ ∀ j u, (ec x)[j]? = some u → W.cell? ⟨bb, off + i * sz + j, none⟩ = some u := fun i hi => by
        have h1 := hels i hi
        have h2 : elems[i]? = some elems[i] := List.getElem?_eq_getElem (by omega)
        rw [h2] at h1
        cases hc : W.cells? 0 ((⟨bb, off, none⟩ : Addr).add (i * P.cellsOf e)) (P.cellsOf e) with
        | none => rw [hc] at h1; simp at h1
        | some cs =>
          rw [hc] at h1
          obtain ⟨x, rfl, hx⟩ := hel _ _ _ h1
          refine ⟨x, hx, fun j u hu => ?_⟩
          rw [hsz, add_none] at hc
          simp only [World.cells?, Nat.zero_le, if_true] at hc
          have hj : j < sz := by rw [← hk x]; exact (List.getElem?_eq_some_iff.1 hu).1
          have := mapM_at hc j hj
          rw [hu] at this
          simpa [add_none] using this
      obtain ⟨l, hll, hlo, hlc⟩ := build_list each
      subst hll
      have hblk : bb < W.heap.size := block_lt_of_cell hu0
      have hbb : W.heap[bb]? = some W.heap[bb] := Array.getElem?_eq_getElem hblk
      have hcells : ∀ w : World, w.heap[bb]? = some W.heap[bb] → ∀ i x, l[i]? = some x → ∀ j u, (ec x)[j]? = some u → w.cell? ⟨bb, off + i * sz + j, none⟩ = some u := fun w hw i x hi j u hu => by
        rw [← hlc i x hi j u hu]
        exact World.cell?_of_block (hw.trans hbb.symm)
      by_cases hz : ∃ o, (bb, o) ∈ HZ
      · obtain ⟨o, ho⟩ := hz
        have : o = W.heap[bb] := Option.some.inj ((hH.at_ _ ho).symm.trans hbb)
        subst this
        exact ⟨[], l, hH, .inr ⟨bb, off, cap, rfl, hl, fun w hw => hcells w (hw.at_ _ ho)⟩, hlo, hm63⟩
      · refine ⟨[(bb, W.heap[bb])], l, ⟨fun e he => ?_, ?_⟩, .inr ⟨bb, off, cap, rfl, hl, fun w hw => hcells w (hw.at_ (bb, _) (by simp))⟩, hlo, hm63⟩
        · rcases List.mem_append.1 he with he | he
          · simp only [List.mem_cons, List.not_mem_nil, or_false] at he; subst he; exact hbb
          · exact hH.at_ e he
        · refine List.pairwise_cons.2 ⟨fun e he h => hz ⟨e.2, ?_⟩, hH.ne⟩
          have he2 : (bb, e.2) = e := Prod.ext h rfl
          rw [he2]; exact he
/-- What is read over some blocks, over more of them. -/
theorem Hp_app {A B : Mem} : ∀ w, Hp (A ++ B) w → Hp B w := fun _ h => h.right
theorem trod_cell {H : Type} {enc : TypeId × Value → H} {P : Program} {W : World} {n : Nat} {t e : TypeId} {cs : List Value} {x : DataW H × List MemPlace} (ht : P.underlying t = some (.slice e)) (h : DataW.trod enc P W 0 (fun _ => true) true n t cs = some x) : ∃ v, cs = [v] := by
  rcases DataW.trod_slice ht h with ⟨hcs, _⟩ | ⟨a, len, cap, elems, rest, m, _, hcs, _⟩
  · exact ⟨_, hcs⟩
  · exact ⟨_, hcs⟩
section
variable {H : Type} {enc : TypeId × Value → H} {P : Program} {W : World} {t2 t1 u8 : TypeId} (h2 : P.underlying t2 = some (.slice t1)) (h1 : P.underlying t1 = some (.slice u8)) (c1 : P.cellsOf t1 = 1) (c0 : P.cellsOf u8 = 1)
  (hel : ∀ n cs x, DataW.trod enc P W 0 (fun _ => true) true n u8 cs = some x → ∃ c, cs = byteC c ∧ True)
include h1 c0 hel
/-- Slices of bytes, one by one. -/
theorem open_each : ∀ (vs : List Value), (∀ v ∈ vs, ∃ n y, DataW.trod enc P W 0 (fun _ => true) true n t1 [v] = some y) → ∀ HZ, Hp HZ W → ∃ HA l, Hp (HA ++ HZ) W ∧ l.map BSl.v = vs ∧ BsOk (HA ++ HZ) l
  | [], _, HZ, hH => ⟨[], [], hH, rfl, fun x hx => nomatch hx⟩
  | v :: vs, hv, HZ, hH => by
    obtain ⟨HA, l, hA, hl, hok⟩ := open_each vs (fun x hx => hv x (List.mem_cons_of_mem _ hx)) HZ hH
    obtain ⟨n, y, hn⟩ := hv v List.mem_cons_self
    obtain ⟨HB, b, hB, hb, _, _⟩ := open_slT (ec := byteC) (ok := fun _ => True) h1 c0 (by decide) byteC_len hel hn (HA ++ HZ) hA
    obtain ⟨a, c, rfl⟩ := hb.shape
    refine ⟨HB ++ HA, ⟨a, c, b⟩ :: l, by rw [List.append_assoc]; exact hB, by rw [List.map_cons, hl]; rfl, fun x hx => ?_⟩
    rcases List.mem_cons.1 hx with rfl | hx
    · rw [List.append_assoc]; exact Rdb.of_x hb
    · rw [List.append_assoc]; exact (hok x hx).mono Hp_app
include h2 c1
/-- A slice of slices of bytes. -/
theorem open_bss {n : Nat} {v : Value} {y : DataW H × List MemPlace} (hn : DataW.trod enc P W 0 (fun _ => true) true n t2 [v] = some y) (HZ : Mem) (hH : Hp HZ W) :
    ∃ HA l, Hp (HA ++ HZ) W ∧ Rdx 1 bsC (HA ++ HZ) v l ∧ BsOk (HA ++ HZ) l ∧ l.length ≤ 9223372036854775807 := by
  obtain ⟨HA, vs, hA, hvs, hok, hlen⟩ := open_slT (ec := fun v : Value => [v]) (ok := fun v => ∃ n y, DataW.trod enc P W 0 (fun _ => true) true n t1 [v] = some y) h2 c1 (by decide) (fun _ => rfl) (fun n cs x h => by
    obtain ⟨v, rfl⟩ := trod_cell h1 h
    exact ⟨v, rfl, n, x, h⟩) hn HZ hH
  obtain ⟨HB, l, hB, hl, hbs⟩ := open_each h1 c0 hel vs hok (HA ++ HZ) hA
  subst hl
  refine ⟨HB ++ HA, l, by rw [List.append_assoc]; exact hB, ?_, by rw [List.append_assoc]; exact hbs, by simpa using hlen⟩
  rw [List.append_assoc]
  have h9 := hvs.mono (H' := HB ++ (HA ++ HZ)) Hp_app
  rcases h9 with ⟨hn, he⟩ | ⟨b, off, cap, rfl, hc, hcell⟩
  · exact .inl ⟨hn, by simpa using he⟩
  · refine .inr ⟨b, off, cap, by simp, by simpa using hc, fun w hw i x hi j u hu => ?_⟩
    refine hcell w hw i x.v (by rw [List.getElem?_map, hi]; rfl) j u ?_
    simpa [bsC, BSl.v] using hu
end
end Go.Proofs.YtmjmaloapafnlaaGreatDoor

namespace Go.Proofs.YtmjmaloapafnlaaGreatDoor
open Go Go.Mv
set_option maxRecDepth 8000
/-- Where a list has the first such one. -/
def IdxF (p : Rec → Bool) (l : List Rec) (n : Int) : Prop := (n = -1 ∧ ∀ x ∈ l, p x = false) ∨ ∃ (i : Nat) (x : Rec), n = i ∧ l[i]? = some x ∧ p x = true ∧ ∀ (j : Nat) (y : Rec), j < i → l[j]? = some y → p y = false
theorem IdxF.any {p : Rec → Bool} {l : List Rec} {n : Int} (h : IdxF p l n) : decide (n ≥ 0) = l.any p := by
  rcases h with ⟨rfl, h⟩ | ⟨i, x, rfl, hx, hp, _⟩
  · rw [List.any_eq_false.2 (fun x hx => by simp [h x hx])]; rfl
  · rw [List.any_eq_true.2 ⟨x, List.mem_of_getElem? hx, hp⟩]; exact decide_eq_true (by omega)

end Go.Proofs.YtmjmaloapafnlaaGreatDoor

namespace Go.Proofs.YtmjmaloapafnlaaGreatDoor
open Go.Proofs.Tryz
open Go Go.Mv
set_option maxRecDepth 8000
theorem c_bytesCmp (f g : Nat → Int) (b1 b2 : Nat) (w : World) (hf : IdOk f) (hg : IdOk g) (hH : Hp [(b1, .cells (idV f).cells 36 (0, 0)), (b2, .cells (idV g).cells 36 (0, 0))] w) : Calls Tryz.prog 152 #[.slice (some ⟨b1, 0, none⟩) 32 32, .slice (some ⟨b2, 0, none⟩) 32 32] w (Ret w [] fun v H1 => v = .int .i64 (idCmp f g) ∧ H1 = []) := by
 refine fn_enter (args := [_, _]) func152 rfl ntmps152 rfl hH (sq (pl (qa rfl (n0 (sq (pl (qm rfl (qm rfl (ql rfl (RD.call_extern rfl rfl (fun w hw => run_cmpIds (o1 := 0) (o2 := 0) func183 (by kernel_rfl) (by kernel_rfl) (by kernel_rfl) (by kernel_rfl) hf hg (id_slice (i := 0) hw rfl) (id_slice (i := 1) hw rfl))) ?_)))))))))
 exact qa rfl (n0 (rt (pn_done rfl rfl ⟨rfl, rfl⟩ (List.nil_sublist _) (by simp))))
theorem c_hashCmp (f g : Nat → Int) (w : World) (hf : IdOk f) (hg : IdOk g) : Calls Tryz.prog 106 #[idV f, idV g] w (Ret w [] fun v H1 => v = .int .i64 (idCmp f g) ∧ H1 = []) := by
 refine fn_enter (args := [_, _]) func106 rfl ntmps106 rfl (Hp.nil w) (sq (pl (TE_box rfl rfl trivial rfl fun b2 hb2 => (TE_box rfl rfl trivial rfl fun b3 hb3 => (qa rfl (n0 (sq (sq (pl ?_)))))))))
 refine ql rfl (RD.loadA (i := 1) isAgg36 sizeOf36 rfl rfl (Nat.le_of_ble_eq_true rfl) (id_all _)) (ql rfl (RD.loadA (i := 0) isAgg36 sizeOf36 rfl rfl (Nat.le_of_ble_eq_true rfl) (id_all _)) (qq rfl (RD.eql_agg eqGuardType36 (eq_id f g) rfl rfl) (n0 ?_)))
 first | refine pn_condD rfl (fun hc0 => ?_) (fun hc0 => ?_) | refine pn_condN rfl (fun hc0 => ?_) (fun hc0 => ?_) | refine pn_cond rfl (fun hc0 => ?_) (fun hc0 => ?_)
 ·exact sq (pl (qa rfl (n0 (rt (pn_done rfl rfl ⟨by rw [idCmp_zero.2 (sameN_iff.1 (by simpa using hc0))]; rfl, rfl⟩ (List.nil_sublist _) (by simp))))))
 ·refine sk (sq (pn_draw [] [] [0, 1] rfl (by kernel_rfl) (by kernel_rfl) rfl rfl (qq rfl (RD.sliceA runUnderlying36 sizeOf5 rfl rfl (Nat.le_refl _)) (qq rfl (RD.sliceA runUnderlying36 sizeOf5 rfl rfl (Nat.le_refl _)) (TE_call rfl rfl trivial call152 rfl rfl rfl (fun w hs' => c_bytesCmp f g b2 b3 w hf hg (hs'.hp.sp (fun a => by simp -failIfUnchanged <;> omega))) ?_)))))
  rintro v10 H2 ⟨rfl, rfl⟩ -
  exact qa rfl (TE_nil (rt (pn_done rfl rfl ⟨rfl, rfl⟩ (List.nil_sublist _) (by simp))))
def sameIL : List (Nat → Int) → List (Nat → Int) → Bool
  | [], [] => true
  | x :: xs, y :: ys => sameN 32 x y && sameIL xs ys
  | _, _ => false
theorem elId : ElI Tryz.prog 36 32 32 (idV fun _ => 0) := by unfold ElI; kernel_rfl
end Go.Proofs.YtmjmaloapafnlaaGreatDoor
