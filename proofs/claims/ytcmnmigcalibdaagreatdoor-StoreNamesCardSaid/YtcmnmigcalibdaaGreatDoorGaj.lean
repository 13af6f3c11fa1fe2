import Derived.Test.YtcmnmigcalibdaaGreatDoorGai
import Derived.Test.YtcmnmigcalibdaaGreatDoorSrt
import Derived.ProofKit
import Derived.OpenShut
import Derived.Deep.DeepHandedRow
import Derived.WideKeyArgs
import Derived.Lib.LaidTab
import Derived.SevenTiedAt
import Derived.ChangeSlices
namespace Go.Proofs.YtcmnmigcalibdaaGreatDoor
open Go.Proofs.Tryz
open Go Go.Mv
set_option maxRecDepth 8000
theorem lv_back {fn : Func} {C : Ctx} {R : Ending → World → Prop} {E : Env} {ds : List Deferred} {H : Mem} {s : Nat} {a a' : Option Addr} {n c n' c' b5 x2 x3 x5 : Nat} {ev : Int} (REST : Mem) (hH : ∀ w, Hp H w → Hp (([(x5, .cells #[.slice a n c] 32 (0, 0)), (x3, .cells #[.pointer (some ⟨b5, 0, none⟩)] 270 (0, 0)), (x2, .cells #[.pointer (some ⟨s, 0, none⟩)] 85 (0, 0)), (b5, .cells #[.int .i64 ev] 29 (0, 0))] ++ REST) ++ [(s, .cells #[.slice a' n' c'] 178 (0, 0))]) w) (hX : C.w0.heap.size ≤ s ∨ s ∈ C.X)
    (h : LV Tryz.prog fn C R E ds (([(x5, .cells #[.slice a n c] 32 (0, 0)), (x3, .cells #[.pointer (some ⟨b5, 0, none⟩)] 270 (0, 0)), (x2, .cells #[.pointer (some ⟨s, 0, none⟩)] 85 (0, 0)), (b5, .cells #[.int .i64 ev] 29 (0, 0))] ++ REST) ++ [(s, .cells #[if ev = 0 then .slice a' n' c' else .slice a n c] 178 (0, 0))])) : LV Tryz.prog fn C R E ({ target := .fn (.func 220) #[.pointer (some ⟨x3, 0, none⟩), .pointer (some ⟨x5, 0, none⟩), .pointer (some ⟨x2, 0, none⟩)], args := #[] } :: ds) H := by
  refine lv_call ([(x5, .cells #[.slice a n c] 32 (0, 0)), (x3, .cells #[.pointer (some ⟨b5, 0, none⟩)] 270 (0, 0)), (x2, .cells #[.pointer (some ⟨s, 0, none⟩)] 85 (0, 0)), (b5, .cells #[.int .i64 ev] 29 (0, 0))] ++ REST) [(s, .cells #[.slice a' n' c'] 178 (0, 0))] hH call220 (allC (Q := fun k => C.w0.heap.size ≤ k ∨ k ∈ C.X) hX (allN (Q := fun k => C.w0.heap.size ≤ k ∨ k ∈ C.X))) (fun w h => ?_) (post' := fun _ H1 => H1 = [(s, .cells #[if ev = 0 then .slice a' n' c' else .slice a n c] 178 (0, 0))]) ?_
  · exact c_back1 s b5 x2 x3 x5 a a' n c n' c' ev w (h.sub (List.Sublist.append_right (List.sublist_append_left _ _) _))
  · rintro v H1 rfl -
    exact h
/-- What reading bytes leaves. -/
def ReadsB (HX : Mem) (s : Nat) (ys : List UInt8) (d : Dr (List UInt8)) (v : Value) (H1 : Mem) : Prop :=
  (∃ b r v' x H2, d = .ok b r ∧ v = .tuple #[x, .int .i64 0] ∧ RetB 5 x H2 b ∧ H1 = H2 ++ srcM s v' HX ∧ Rdb HX v' r ∧ r.length ≤ ys.length) ∨
  (∃ e v' r, d = .err e ∧ e ≠ 0 ∧ v = .tuple #[.slice none 0 0, .int .i64 e] ∧ H1 = srcM s v' HX ∧ Rdb HX v' r ∧ r.length ≤ ys.length)

theorem c_raw (HX : Mem) (s n : Nat) (sv : Value) (ys : List UInt8) (w : World) (hb : Rdb HX sv ys) (hlen : ys.length ≤ 2199023255552) (hw : Hp (srcM s sv HX) w) : Calls Tryz.prog 104 #[.pointer (some ⟨s, 0, none⟩), .int .i64 (n : Int)] w (Ret w (keys (srcM s sv HX)) (ReadsB HX s ys (rawD n ys))) := by
 refine fn_enter (args := [_, _]) func104 rfl ntmps104 rfl hw (sq (pl (qa rfl (qa rfl (n0 (sq (pn_block (sq (pl ?_)))))))))
 refine qm rfl (qq rfl (RD.ptr_eql_nil runUnderlying85 rfl rfl) (qa rfl (n0 (pn_condF rfl (sq (pl (qm rfl (qq rfl (RD.as (v := .bool false) (RD.lss rfl rfl) (by rw [decide_eq_false (by omega)])) (qa rfl ?_)))))))))
 refine n0 (pn_condF rfl (sq (pn_plain [5] rfl (qm rfl (qm rfl (qn rfl (qq rfl (RD.fieldAddr (o := 0) runUnderlying178 rfl rfl sizeOf32 rfl) (ql rfl (RD.load (i := 0) isAgg32 rfl rfl rfl) (qq rfl (RD.lenR runUnderlying32 rfl hb) ?_)))))))))
 refine qq rfl (RD.gtr rfl rfl) (qa rfl (n0 ?_))
 first | refine pn_condD rfl (fun hc2 => ?_) (fun hc2 => ?_) | refine pn_condN rfl (fun hc2 => ?_) (fun hc2 => ?_) | refine pn_cond rfl (fun hc2 => ?_) (fun hc2 => ?_)
 ·exact sq (pl (qa rfl (qa rfl (n0 (rt (pn_doneF rfl ⟨_, _, rfl, rfl, _, _, rfl, rfl, rfl⟩ (.inr ⟨10, sv, ys, by simp only [rawD]; rw [if_pos (by omega)], by decide, rfl, rfl, hb, Nat.le_refl _⟩) (fun w h => h) in_src))))))
 ·refine sk (sq (pl (qm rfl ?_)))
  have hle : n ≤ ys.length := (by omega); have hb2 := hb.cut hle; obtain ⟨a2, c2, hs2⟩ := hb2.shape; rw [hs2] at hb2
  refine qn rfl (qq rfl (RD.fieldAddr (o := 0) runUnderlying178 rfl rfl sizeOf32 rfl) (ql rfl (RD.load (i := 0) isAgg32 rfl rfl rfl) (qm rfl (qq rfl (RD.sliceR (l := 0) (h := n) runUnderlying32 sizeOf5 rfl hb rfl ⟨_, rfl⟩ (Nat.zero_le _) hle) (TE_call rfl rfl trivial call105 rfl rfl rfl (fun w hs' => c_clone HX _ (ys.take n) w (hs'.hp.left.sub (List.sublist_cons_self _ _)) (by have := hb.sub (Nat.zero_le n) hle; rw [List.drop_zero] at this; exact this.bytes) (by rw [List.length_take]; omega)) ?_)))))
  rintro v27 H6 hr hX6
  refine qa rfl (n0 (sq (pn_perm (srcM s sv HX ++ H6) (fun w h => h.perm List.perm_append_comm) (pl (qm rfl (qm rfl (qn rfl (qq rfl (RD.fieldAddr (o := 0) runUnderlying178 rfl rfl sizeOf32 rfl) (ql rfl (RD.load (i := 0) isAgg32 rfl rfl rfl) ?_)))))))))
  refine qm rfl (qq rfl (RD.as (RD.sliceR (l := n) (h := ys.length) runUnderlying32 sizeOf5 rfl hb ⟨_, rfl⟩ rfl hle (Nat.le_refl _)) hs2) (qn rfl (qq rfl (RD.fieldAddr (o := 0) runUnderlying178 rfl rfl sizeOf32 rfl) (TE_store (i := 0) rfl sizeOf32 trivial rfl rfl rfl rfl rfl rfl (.inr (by simp [srcM])) (n0 (sq (pl (qm rfl (qa rfl ?_)))))))))
  exact qa rfl (n0 (rt (pn_doneF rfl ⟨_, _, rfl, rfl, _, _, rfl, rfl, rfl⟩ (.inl ⟨_, _, _, _, H6, by simp only [rawD]; rw [if_neg (by omega)], rfl, hr, rfl, hb2, by simp⟩) (fun w h => Hp.perm (A := srcM s _ HX ++ H6) h List.perm_append_comm) (allA (Q := fun k => k ∈ keys (srcM s sv HX) ∨ _ ≤ k) (fun e he => .inr (hX6 e he)) in_src))))
theorem c_left (HX : Mem) (s : Nat) (sv : Value) (ys : List UInt8) (w : World) (hb : Rdb HX sv ys) (hw : Hp (srcM s sv HX) w) : Calls Tryz.prog 132 #[.pointer (some ⟨s, 0, none⟩)] w (Ret w [] fun v H1 => v = .int .i64 ys.length ∧ H1 = []) := by
 refine fn_enter (args := [_]) func132 rfl ntmps132 rfl hw (sq (pl (qa rfl (n0 (sq (sq (pl (qm rfl (qq rfl (RD.ptr_eql_nil runUnderlying85 rfl rfl) ?_)))))))))
 refine n0 (pn_condF rfl (sk (sq (pn_plain [4] rfl (qm rfl (qn rfl (qq rfl (RD.fieldAddr (o := 0) runUnderlying178 rfl rfl sizeOf32 rfl) (ql rfl (RD.load (i := 0) isAgg32 rfl rfl rfl) (qq rfl (RD.lenR runUnderlying32 rfl hb) ?_)))))))))
 exact qa rfl (n0 (rt (pn_done rfl rfl ⟨rfl, rfl⟩ (List.nil_sublist _) (by simp))))
set_option maxHeartbeats 2000000 in
theorem c_bytes (HX : Mem) (s most : Nat) (sv : Value) (ys : List UInt8) (w : World) (hb : Rdb HX sv ys) (hlen : ys.length ≤ 2199023255552) (hm : most ≤ 9223372036854775807) (hw : Hp (srcM s sv HX) w) : Calls Tryz.prog 127 #[.pointer (some ⟨s, 0, none⟩), .int .i64 (most : Int)] w (Ret w (keys (srcM s sv HX)) (ReadsB HX s ys (bytesD most ys))) := by
 obtain ⟨a, c, rfl⟩ := hb.shape
 generalize hn : ys.length = n at *
 refine fn_enter (args := [_, _]) func127 rfl ntmps127 rfl hw (sq (pl (qa rfl (TE_alloc rfl zeroValue29 trivial rfl fun b5 hb5 => (n0 (sq (sq (pl (qm rfl ?_)))))))))
 refine qq rfl (RD.ptr_eql_nil runUnderlying85 rfl rfl) (n0 (pn_condF rfl (sk (sq (pl (qm rfl (TE_call rfl rfl trivial call173 rfl rfl rfl (fun w hs' => c_back s b5 a n c w (hs'.hp.left.sub (.cons _ (.cons_cons _ (List.nil_sublist _))))) ?_)))))))
 rintro v10 H1 ⟨x2, x3, x5, rfl, rfl⟩ hxs
 refine TE_defer rfl trivial rfl rfl (n0 (sq (pn_pickT [3, 0, 1, 2] [_, _, _, _] (srcM s (.slice a n c) HX) rfl rfl rfl (pn_plain [2, 3] rfl (qm rfl (qm rfl (qq rfl (RD.as (RD.max2 rfl rfl) (show _ = Value.int .i64 (most : Int) by congr 1; split <;> omega)) (qq rfl (RD.as (RD.conv runUnderlying3 runUnderlying128 rfl) (u64_len (by omega))) (TE_callT [_, _, _, _] (srcM s (.slice a n c) HX) rfl rfl rfl trivial call161 rfl rfl rfl (fun e he => .inr (mem_keys.2 ⟨e, he, rfl⟩)) (fun w hs' => c_num HX s most _ ys w hb (by omega) (by omega) (hs'.hp.left.right (A := [_, _, _, _]))) ?_)))))))))
 rintro v16 H4 (⟨k, r, v1, hd, rfl, rfl, hb1, hl1⟩ | ⟨e, v1, r, hd, he, rfl, rfl, hb1, hl1⟩) hX1
 all_goals refine TE_q rfl rfl (RD.move rfl) rfl ?_
 all_goals refine TE_q rfl rfl (RD.extract rfl rfl) rfl ?_
 all_goals refine TE_q rfl rfl (RD.extract rfl rfl) rfl ?_
 all_goals refine TE_q rfl rfl (RD.assign rfl) rfl ?_
 all_goals refine TE_store (i := 0) rfl sizeOf29 trivial rfl rfl rfl rfl rfl rfl (.inl hb5) ?_
 all_goals refine TE_nil0 ?_
 all_goals refine pn_seq ?_
 all_goals refine pn_seq ?_
 all_goals refine pn_plain [] rfl ?_
 all_goals refine TE_l rfl rfl trivial rfl (RD.load (i := 0) isAgg29 rfl rfl rfl) rfl ?_
 all_goals first | refine TE_q rfl rfl (RD.as (v := .bool true) (RD.neq rfl rfl) (by rw [decide_eq_false he]; rfl)) rfl ?_ | refine TE_q rfl rfl (RD.neq rfl rfl) rfl ?_
 all_goals refine TE_nil0 ?_
 all_goals first
  | (
    refine pn_condT rfl (sq (pn_drawT [] [0] [1, 2, 3] [_, _, _, _] (srcM s v1 HX) rfl rfl (by kernel_rfl) (by kernel_rfl) rfl rfl (ql rfl (RD.load (i := 0) isAgg29 rfl rfl rfl) (qa rfl (TE_store (i := 0) rfl sizeOf29 trivial rfl rfl rfl rfl rfl rfl (.inl hb5) (TE_nil (rt ?_)))))))
    obtain ⟨a9, c9, rfl⟩ := hb1.shape; exact lv_ret (lv_back (HX) (fun w h => (Hp.pickT (A := [_, _, _, _, _]) (T := HX) (is := [4, 1, 2, 3, 0]) (h) rfl rfl).perm (List.perm_append_comm (l₁ := [_]))) (hX1 (s, _) List.mem_cons_self) (lv_end rfl ⟨_, _, rfl, rfl, _, _, b5, 0, rfl, rfl, load_cell (i := 3) isAgg29 rfl rfl, rfl⟩ (.inr ⟨e, _, ys, by simp only [bytesD, hd], he, rfl, rfl, by rw [if_neg he]; exact hb, by omega⟩) (fun w h => (Hp.pickT (A := [_, _, _, _, _]) (T := HX) (is := [0]) (h.perm (List.perm_append_comm (l₂ := [_]))) rfl rfl)) in_src)))
  | (
    refine pn_condF rfl (sk (sq (pn_plain [2] rfl (qm rfl (qm rfl ?_)))))
    have hk := (numD_ok hd).2.1
    refine qq rfl (RD.as (RD.conv runUnderlying128 runUnderlying3 rfl) (by rw [wrap64_id (by omega) (by omega)])) (TE_callT [_, _, _, _] (srcM s v1 HX) rfl rfl rfl trivial call104 rfl rfl rfl hX1 (fun w hs' => c_raw HX s k v1 r w hb1 (by omega) (hs'.hp.left.right (A := [_, _, _, _]))) ?_)
    rintro v25 H3 (⟨b, r2, v2, x, H2, hd2, rfl, hr2, rfl, hb2, hl2⟩ | ⟨e, v2, r2, hd2, he, rfl, rfl, hb2, hl2⟩) hX2
    all_goals refine TE_q rfl rfl (RD.extract rfl rfl) rfl ?_
    all_goals refine TE_q rfl rfl (RD.extract rfl rfl) rfl ?_
    all_goals refine TE_q rfl rfl (RD.assign rfl) rfl ?_
    all_goals refine TE_store (i := 0) rfl sizeOf29 trivial rfl rfl rfl rfl rfl rfl (.inl hb5) ?_
    all_goals refine TE_nil0 ?_
    all_goals refine pn_ret ?_
    all_goals (first | (obtain ⟨a9, c9, rfl⟩ := hb2.shape; exact lv_ret (lv_back (H2 ++ HX) (fun w h => (Hp.pickT (A := [_, _, _, _, _]) (T := H2 ++ HX) (is := [4, 1, 2, 3, 0]) (Hp.perm (A := [_, _, _, _] ++ (H2 ++ srcM s _ HX)) h (List.Perm.append_left _ List.perm_middle)) rfl rfl).perm (List.perm_append_comm (l₁ := [_]))) (hX2 (s, _) (List.mem_append_right _ List.mem_cons_self)) (lv_end rfl ⟨_, _, rfl, rfl, _, _, b5, 0, rfl, rfl, load_cell (i := 3) isAgg29 rfl rfl, rfl⟩ (.inl ⟨b, r2, .slice a9 r2.length c9, x, H2, by simp only [bytesD, hd, hd2], rfl, hr2, rfl, hb2, by omega⟩) (fun w h => Hp.perm (A := (s, .cells #[.slice a9 r2.length c9] 178 (0, 0)) :: (H2 ++ HX)) ((Hp.pickT (A := [_, _, _, _, _]) (T := H2 ++ HX) (is := [0]) (h.perm (List.perm_append_comm (l₂ := [_]))) rfl rfl)) List.perm_middle.symm) (allA (Q := fun k => k ∈ _ ∨ _ ≤ k) (fun e he => (hX2 e (List.mem_append_left _ he)).symm) in_src)))) | (obtain ⟨a9, c9, rfl⟩ := hb2.shape; exact lv_ret (lv_back (HX) (fun w h => (Hp.pickT (A := [_, _, _, _, _]) (T := HX) (is := [4, 1, 2, 3, 0]) (h) rfl rfl).perm (List.perm_append_comm (l₁ := [_]))) (hX2 (s, _) List.mem_cons_self) (lv_end rfl ⟨_, _, rfl, rfl, _, _, b5, 0, rfl, rfl, load_cell (i := 3) isAgg29 rfl rfl, rfl⟩ (.inr ⟨e, _, ys, by simp only [bytesD, hd, hd2], he, rfl, rfl, by rw [if_neg he]; exact hb, by omega⟩) (fun w h => (Hp.pickT (A := [_, _, _, _, _]) (T := HX) (is := [0]) (h.perm (List.perm_append_comm (l₂ := [_]))) rfl rfl)) in_src)))))
  | (
    first | refine pn_condD rfl (fun hc1 => ?_) (fun hc1 => ?_) | refine pn_condN rfl (fun hc1 => ?_) (fun hc1 => ?_) | refine pn_cond rfl (fun hc1 => ?_) (fun hc1 => ?_)
    ·refine sq (pn_drawT [] [0] [1, 2, 3] [_, _, _, _] (srcM s v1 HX) rfl rfl (by kernel_rfl) (by kernel_rfl) rfl rfl (ql rfl (RD.load (i := 0) isAgg29 rfl rfl rfl) (qa rfl (TE_store (i := 0) rfl sizeOf29 trivial rfl rfl rfl rfl rfl rfl (.inl hb5) (TE_nil (rt ?_))))))
     obtain ⟨a9, c9, rfl⟩ := hb1.shape; exact lv_ret (lv_back (HX) (fun w h => (Hp.pickT (A := [_, _, _, _, _]) (T := HX) (is := [4, 1, 2, 3, 0]) (h) rfl rfl).perm (List.perm_append_comm (l₁ := [_]))) (hX1 (s, _) List.mem_cons_self) (lv_end rfl ⟨_, _, rfl, rfl, _, _, b5, 0, rfl, rfl, load_cell (i := 3) isAgg29 rfl rfl, rfl⟩ (.inr ⟨e, _, ys, by simp only [bytesD, hd], he, rfl, rfl, by rw [if_neg he]; exact hb, by omega⟩) (fun w h => (Hp.pickT (A := [_, _, _, _, _]) (T := HX) (is := [0]) (h.perm (List.perm_append_comm (l₂ := [_]))) rfl rfl)) in_src))
    ·refine sk (sq (pn_plain [2] rfl (qm rfl (qm rfl ?_))))
     have hk := (numD_ok hd).2.1
     refine qq rfl (RD.as (RD.conv runUnderlying128 runUnderlying3 rfl) (by rw [wrap64_id (by omega) (by omega)])) (TE_callT [_, _, _, _] (srcM s v1 HX) rfl rfl rfl trivial call104 rfl rfl rfl hX1 (fun w hs' => c_raw HX s k v1 r w hb1 (by omega) (hs'.hp.left.right (A := [_, _, _, _]))) ?_)
     rintro v25 H3 (⟨b, r2, v2, x, H2, hd2, rfl, hr2, rfl, hb2, hl2⟩ | ⟨e, v2, r2, hd2, he, rfl, rfl, hb2, hl2⟩) hX2
     all_goals refine TE_q rfl rfl (RD.extract rfl rfl) rfl ?_
     all_goals refine TE_q rfl rfl (RD.extract rfl rfl) rfl ?_
     all_goals refine TE_q rfl rfl (RD.assign rfl) rfl ?_
     all_goals refine TE_store (i := 0) rfl sizeOf29 trivial rfl rfl rfl rfl rfl rfl (.inl hb5) ?_
     all_goals refine TE_nil0 ?_
     all_goals refine pn_ret ?_
     all_goals (first | (obtain ⟨a9, c9, rfl⟩ := hb2.shape; exact lv_ret (lv_back (H2 ++ HX) (fun w h => (Hp.pickT (A := [_, _, _, _, _]) (T := H2 ++ HX) (is := [4, 1, 2, 3, 0]) (Hp.perm (A := [_, _, _, _] ++ (H2 ++ srcM s _ HX)) h (List.Perm.append_left _ List.perm_middle)) rfl rfl).perm (List.perm_append_comm (l₁ := [_]))) (hX2 (s, _) (List.mem_append_right _ List.mem_cons_self)) (lv_end rfl ⟨_, _, rfl, rfl, _, _, b5, 0, rfl, rfl, load_cell (i := 3) isAgg29 rfl rfl, rfl⟩ (.inl ⟨b, r2, .slice a9 r2.length c9, x, H2, by simp only [bytesD, hd, hd2], rfl, hr2, rfl, hb2, by omega⟩) (fun w h => Hp.perm (A := (s, .cells #[.slice a9 r2.length c9] 178 (0, 0)) :: (H2 ++ HX)) ((Hp.pickT (A := [_, _, _, _, _]) (T := H2 ++ HX) (is := [0]) (h.perm (List.perm_append_comm (l₂ := [_]))) rfl rfl)) List.perm_middle.symm) (allA (Q := fun k => k ∈ _ ∨ _ ≤ k) (fun e he => (hX2 e (List.mem_append_left _ he)).symm) in_src)))) | (obtain ⟨a9, c9, rfl⟩ := hb2.shape; exact lv_ret (lv_back (HX) (fun w h => (Hp.pickT (A := [_, _, _, _, _]) (T := HX) (is := [4, 1, 2, 3, 0]) (h) rfl rfl).perm (List.perm_append_comm (l₁ := [_]))) (hX2 (s, _) List.mem_cons_self) (lv_end rfl ⟨_, _, rfl, rfl, _, _, b5, 0, rfl, rfl, load_cell (i := 3) isAgg29 rfl rfl, rfl⟩ (.inr ⟨e, _, ys, by simp only [bytesD, hd, hd2], he, rfl, rfl, by rw [if_neg he]; exact hb, by omega⟩) (fun w h => (Hp.pickT (A := [_, _, _, _, _]) (T := HX) (is := [0]) (h.perm (List.perm_append_comm (l₂ := [_]))) rfl rfl)) in_src)))))
end Go.Proofs.YtcmnmigcalibdaaGreatDoor

namespace Go.Proofs.YtcmnmigcalibdaaGreatDoor
open Go Go.Mv
set_option maxRecDepth 8000
theorem elByteR : ElI Tryz.prog 5 1 1 (.int .u8 0) := by unfold ElI; kernel_rfl
end Go.Proofs.YtcmnmigcalibdaaGreatDoor

namespace Go.Proofs.YtcmnmigcalibdaaGreatDoor
open Go Go.Mv
set_option maxRecDepth 8000
/-- The dots that were met. -/
def MetOk (ds : List (Int × Int)) (l : List (ME (Int × Int) Int)) : Prop := ∀ k, mget k l = if k ∈ ds then some 1 else none
theorem MetOk.nil : MetOk [] [] := fun k => by simp [mget, mpos]
theorem MetOk.get {ds : List (Int × Int)} {l : List (ME (Int × Int) Int)} (h : MetOk ds l) (k : Int × Int) : (mget k l).getD 0 = if k ∈ ds then 1 else 0 := by
  rw [h k]; split <;> rfl
theorem MetOk.put {ds : List (Int × Int)} {l : List (ME (Int × Int) Int)} {c : Nat} (h : MetOk ds l) {k : Int × Int} (hk : k ∉ ds) : MetOk (ds ++ [k]) (mput k ((mget k l).getD 0 + 1) l c).1 := fun k' => by
  rw [mget_put, h.get, if_neg hk]
  by_cases h' : k' = k
  · subst h'; simp
  · rw [if_neg h', h k']; simp [h']

end Go.Proofs.YtcmnmigcalibdaaGreatDoor

namespace Go.Proofs.YtcmnmigcalibdaaGreatDoor
open Go Go.Mv Go.ChangeShapes
set_option maxRecDepth 100000
/-- A slice of bytes that stands in a cell, and its bytes. -/
structure BSl where
  a : Option Addr
  c : Nat
  b : List UInt8
def BSl.v (x : BSl) : Value := .slice x.a x.b.length x.c
def bsC (x : BSl) : List Value := [.slice x.a x.b.length x.c]
theorem bsC_len (x : BSl) : (bsC x).length = 1 := rfl
instance : Inhabited BSl := ⟨⟨none, 0, []⟩⟩
/-- All of these can be read. -/
def BsOk (H : Mem) (l : List BSl) : Prop := ∀ x ∈ l, Rdb H x.v x.b
theorem BsOk.mono {H H' : Mem} {l : List BSl} (h : BsOk H l) (hs : ∀ w, Hp H' w → Hp H w) : BsOk H' l := fun x hx => (h x hx).mono hs

section
variable {H : Type} {enc : TypeId × Value → H} {P : Program} {W : World} {t2 t1 u8 : TypeId} (h2 : P.underlying t2 = some (.slice t1)) (h1 : P.underlying t1 = some (.slice u8)) (c1 : P.cellsOf t1 = 1) (c0 : P.cellsOf u8 = 1)
  (hel : ∀ n cs x, DataW.trod enc P W 0 (fun _ => true) true n u8 cs = some x → ∃ c, cs = byteC c ∧ True)
include h1 c0 hel
include h2 c1
end
end Go.Proofs.YtcmnmigcalibdaaGreatDoor

namespace Go.Proofs.YtcmnmigcalibdaaGreatDoor
open Go Go.Mv
set_option maxRecDepth 8000
/-- Where a list has the first such one. -/
def IdxF (p : Rec → Bool) (l : List Rec) (n : Int) : Prop := (n = -1 ∧ ∀ x ∈ l, p x = false) ∨ ∃ (i : Nat) (x : Rec), n = i ∧ l[i]? = some x ∧ p x = true ∧ ∀ (j : Nat) (y : Rec), j < i → l[j]? = some y → p y = false
theorem IdxF.any {p : Rec → Bool} {l : List Rec} {n : Int} (h : IdxF p l n) : decide (n ≥ 0) = l.any p := by
  rcases h with ⟨rfl, h⟩ | ⟨i, x, rfl, hx, hp, _⟩
  · rw [List.any_eq_false.2 (fun x hx => by simp [h x hx])]; rfl
  · rw [List.any_eq_true.2 ⟨x, List.mem_of_getElem? hx, hp⟩]; exact decide_eq_true (by omega)

end Go.Proofs.YtcmnmigcalibdaaGreatDoor

namespace Go.Proofs.YtcmnmigcalibdaaGreatDoor
open Go.Proofs.Tryz
open Go Go.Mv
set_option maxRecDepth 8000
theorem c_bytesCmp (f g : Nat → Int) (b1 b2 : Nat) (w : World) (hf : IdOk f) (hg : IdOk g) (hH : Hp [(b1, .cells (idV f).cells 35 (0, 0)), (b2, .cells (idV g).cells 35 (0, 0))] w) : Calls Tryz.prog 151 #[.slice (some ⟨b1, 0, none⟩) 32 32, .slice (some ⟨b2, 0, none⟩) 32 32] w (Ret w [] fun v H1 => v = .int .i64 (idCmp f g) ∧ H1 = []) := by
 refine fn_enter (args := [_, _]) func151 rfl ntmps151 rfl hH (sq (pl (qa rfl (n0 (sq (pl (qm rfl (qm rfl (ql rfl (RD.call_extern rfl rfl (fun w hw => run_cmpIds (o1 := 0) (o2 := 0) func198 (by kernel_rfl) (by kernel_rfl) (by kernel_rfl) (by kernel_rfl) hf hg (id_slice (i := 0) hw rfl) (id_slice (i := 1) hw rfl))) ?_)))))))))
 exact qa rfl (n0 (rt (pn_done rfl rfl ⟨rfl, rfl⟩ (List.nil_sublist _) (by simp))))
theorem c_hashCmp (f g : Nat → Int) (w : World) (hf : IdOk f) (hg : IdOk g) : Calls Tryz.prog 92 #[idV f, idV g] w (Ret w [] fun v H1 => v = .int .i64 (idCmp f g) ∧ H1 = []) := by
 refine fn_enter (args := [_, _]) func92 rfl ntmps92 rfl (Hp.nil w) (sq (pl (TE_box rfl rfl trivial rfl fun b2 hb2 => (TE_box rfl rfl trivial rfl fun b3 hb3 => (qa rfl (n0 (sq (sq (pl ?_)))))))))
 refine ql rfl (RD.loadA (i := 1) isAgg35 sizeOf35 rfl rfl (Nat.le_of_ble_eq_true rfl) (id_all _)) (ql rfl (RD.loadA (i := 0) isAgg35 sizeOf35 rfl rfl (Nat.le_of_ble_eq_true rfl) (id_all _)) (qq rfl (RD.eql_agg eqGuardType35 (eq_id f g) rfl rfl) (n0 ?_)))
 first | refine pn_condD rfl (fun hc0 => ?_) (fun hc0 => ?_) | refine pn_condN rfl (fun hc0 => ?_) (fun hc0 => ?_) | refine pn_cond rfl (fun hc0 => ?_) (fun hc0 => ?_)
 ·exact sq (pl (qa rfl (n0 (rt (pn_done rfl rfl ⟨by rw [idCmp_zero.2 (sameN_iff.1 (by simpa using hc0))]; rfl, rfl⟩ (List.nil_sublist _) (by simp))))))
 ·refine sk (sq (pn_draw [] [] [0, 1] rfl (by kernel_rfl) (by kernel_rfl) rfl rfl (qq rfl (RD.sliceA runUnderlying35 sizeOf5 rfl rfl (Nat.le_refl _)) (qq rfl (RD.sliceA runUnderlying35 sizeOf5 rfl rfl (Nat.le_refl _)) (TE_call rfl rfl trivial call151 rfl rfl rfl (fun w hs' => c_bytesCmp f g b2 b3 w hf hg (hs'.hp.sp (fun a => by simp -failIfUnchanged <;> omega))) ?_)))))
  rintro v10 H2 ⟨rfl, rfl⟩ -
  exact qa rfl (TE_nil (rt (pn_done rfl rfl ⟨rfl, rfl⟩ (List.nil_sublist _) (by simp))))
def sameIL : List (Nat → Int) → List (Nat → Int) → Bool
  | [], [] => true
  | x :: xs, y :: ys => sameN 32 x y && sameIL xs ys
  | _, _ => false
theorem elId : ElI Tryz.prog 35 32 32 (idV fun _ => 0) := by unfold ElI; kernel_rfl
end Go.Proofs.YtcmnmigcalibdaaGreatDoor

namespace Go.Proofs.YtcmnmigcalibdaaGreatDoor
open Go.Proofs.Tryz
open Go Go.Mv
set_option maxRecDepth 8000
theorem c_cloneI (H : Mem) (xv : Value) (ys : List (Nat → Int)) (w : World) (hH : Hp H w) (hb : Rdx 32 idC H xv ys) (hlen : ys.length ≤ 1000000) : Calls Tryz.prog 90 #[xv] w (Ret w [] fun v H1 => ∃ st, BldOk 32 idC ys st ∧ v = bldVx ys st ∧ H1 = bldMx 35 idC ys st) := by
  rcases hb.part with ⟨rfl, rfl⟩ | ⟨ad, n, c, rfl⟩
  · refine fn_enter (args := [_]) func90 rfl ntmps90 rfl hH ?_
    refine pn_seq ?_
    refine pn_plain [] rfl ?_
    refine TE_q rfl rfl (RD.assign rfl) rfl ?_
    refine TE_nil0 ?_
    refine pn_seq ?_
    refine pn_seq ?_
    refine pn_plain [] rfl ?_
    refine TE_q rfl rfl (RD.move rfl) rfl ?_
    refine TE_q rfl rfl (RD.sl_eql_nil runUnderlying41 rfl rfl) rfl ?_
    refine TE_nil0 ?_
    refine pn_condT rfl ?_
    refine pn_seq ?_
    refine pn_plain [] rfl ?_
    refine TE_q rfl rfl (RD.assign rfl) rfl ?_
    refine TE_nil0 ?_
    refine pn_ret ?_
    exact pn_done (H1 := []) rfl rfl ⟨none, rfl, rfl, rfl⟩ (List.nil_sublist _) (by simp)
  · refine fn_enter (args := [_]) func90 rfl ntmps90 rfl hH ?_
    refine pn_seq ?_
    refine pn_plain [] rfl ?_
    refine TE_q rfl rfl (RD.assign rfl) rfl ?_
    refine TE_nil0 ?_
    refine pn_seq ?_
    refine pn_seq ?_
    refine pn_plain [] rfl ?_
    refine TE_q rfl rfl (RD.move rfl) rfl ?_
    refine TE_q rfl rfl (RD.sl_eql_nil runUnderlying41 rfl rfl) rfl ?_
    refine TE_nil0 ?_
    refine pn_condF rfl ?_
    refine pn_skip ?_
    refine pn_seq ?_
    refine pn_plain [] rfl ?_
    refine TE_buildSlice0 rfl runUnderlying41 sizeOf35 trivial rfl fun b5 hb5 => ?_
    refine TE_q rfl rfl (RD.move rfl) rfl ?_
    refine TE_appendX (st := some (b5, 0, [])) (l := []) H idC_len idC_one rfl rfl rfl rfl trivial rfl underlying41 elId rfl rfl rfl ⟨Nat.le_refl _, by decide, rfl⟩ hb (fun _ hw => hw.sp (fun a => by simp -failIfUnchanged <;> omega)) (by simp; omega) rfl (bldx_all (fun k => w.heap.size ≤ k ∨ k ∈ []) (by rintro b cap tl ⟨⟩; exact .inl hb5)) ?_
    intro st hok hX _
    refine TE_q rfl rfl (RD.assign rfl) rfl ?_
    refine TE_nil0 ?_
    refine pn_ret ?_
    exact pn_done rfl rfl ⟨st, hok, rfl, rfl⟩ (List.sublist_append_left _ _) (fun e he => (hX e he).symm)

theorem zeroI_one : ∀ v ∈ ((idV fun _ => 0).cells).toList, v.oneCell' = true := List.all_eq_true.1 rfl
theorem zeroI_ok : IdOk fun _ => 0 := fun _ => by show (0 : Int) ≤ 0 ∧ (0 : Int) ≤ 255; omega
theorem setOf_self {l : List (Nat → Int)} (h : l.length < 2) : SetOf l l := by
  match l, h with
  | [], _ => exact SetOf.nil
  | [x], _ => exact ⟨by simp, fun _ => Iff.rfl⟩
theorem setOf_take {l : List (Nat → Int)} {k : Nat} (h : SetOf (l.take k) (l.take k)) (hk : l.length ≤ k) : SetOf l l := by rwa [List.take_of_length_le hk] at h

set_option maxHeartbeats 1000000 in
theorem c_compact (HC : Mem) (l : List (Nat → Int)) (st : SnkS) (w : World) (hbo : BldOk 32 idC l st) (hcan : ∀ x ∈ l, IdCan x) (hsort : l.Pairwise fun x y => ¬ idCmp y x < 0) (hlen : l.length ≤ 1000000) (hH : Hp (bldMx 35 idC l st ++ HC) w) : Calls Tryz.prog 93 #[bldVx l st] w (Ret w (keys (bldMx 35 idC l st)) fun r H1 => ∃ xs st', SetOf l xs ∧ BldOk 32 idC xs st' ∧ r = bldVx xs st' ∧ H1 = bldMx 35 idC xs st') := by
 have hRl : Rdx 32 idC (bldMx 35 idC l st) (bldVx l st) l := hbo.rdx idC_len
 refine fn_enter (args := [_]) func93 rfl ntmps93 rfl hH (sq (pl (qa rfl (n0 (sq (sq (pn_plain [1] rfl (qm rfl (qq rfl (RD.lenX runUnderlying41 rfl hRl) ?_)))))))))
 refine qq rfl (RD.lss rfl rfl) (n0 ?_)
 first | refine pn_condD rfl (fun hc0 => ?_) (fun hc0 => ?_) | refine pn_condN rfl (fun hc0 => ?_) (fun hc0 => ?_) | refine pn_cond rfl (fun hc0 => ?_) (fun hc0 => ?_)
 ·exact sq (pl (qm rfl (qa rfl (n0 (rt (pn_done rfl rfl ⟨l, st, setOf_self (by omega), hbo, rfl, rfl⟩ (List.sublist_append_left _ _) (fun e he => .inl (List.mem_map_of_mem he))))))))
 ·refine sk (sq (sq ?_))
  have hq9 := hbo.some_of (fun h => hc0 (by rw [h]; decide)); obtain ⟨b0, cap0, tl0, rfl⟩ := hq9
  refine pl (qa rfl (n0 (pn_block (pn_loop (σ := Nat) (fun k => [(3, .int .i64 (k : Int)), (0, .slice (some ⟨b0, 0, none⟩) l.length cap0)]) (fun _ => bldMx 35 idC l (some (b0, cap0, tl0)) ++ HC) (fun k => 1 ≤ k ∧ k ≤ l.length ∧ SetOf (l.take k) (l.take k)) (fun k => l.length - k) 1 ⟨Nat.le_refl _, by omega, setOf_self (by rw [List.length_take]; omega)⟩ ⟨rfl, rfl, trivial⟩ (List.Sublist.refl _) ?_))))
  rintro k ⟨hk1, hk2, hset⟩
  refine sq (sq (pn_plain [2] rfl (qm rfl (qm rfl (qq rfl (RD.lenX runUnderlying41 rfl hRl) (qq rfl (RD.lss rfl rfl) (n0 ?_)))))))
  first | refine pn_condD rfl (fun hc1 => ?_) (fun hc1 => ?_) | refine pn_condN rfl (fun hc1 => ?_) (fun hc1 => ?_) | refine pn_cond rfl (fun hc1 => ?_) (fun hc1 => ?_)
  ·refine sk (sq (pn_block (sq ?_)))
   have hkl : k < l.length := (by omega); have hq9 : ∃ x, l[k]? = some x := ⟨_, List.getElem?_eq_getElem hkl⟩; obtain ⟨x, hx⟩ := hq9; have hq9 : ∃ p, l[k - 1]? = some p := ⟨_, List.getElem?_eq_getElem (by omega)⟩; obtain ⟨p, hp⟩ := hq9; have hcx := hbo.cell (u := 35) idC_len hx; have hcp := hbo.cell (u := 35) idC_len hp; have hnx := srt_next (m := k - 1) hsort hcan (by rw [show k - 1 + 1 = k from by omega]; exact hset) hp (by rw [show k - 1 + 1 = k from by omega]; exact hx); rw [show k - 1 + 1 = k from by omega] at hnx
   refine pn_drawT [3, 8] [] [] [] (bldMx 35 idC l (some (b0, cap0, tl0)) ++ HC) rfl rfl (by kernel_rfl) (by kernel_rfl) rfl rfl (qm rfl (qm rfl (qq rfl (RD.indexX (i := k) (len := l.length) (cap := cap0) (b := b0) (off := 0) runUnderlying41 sizeOf35 rfl rfl rfl hkl) (qq rfl (RD.as (v := idV x) (RD.loadX (vs := idC x) isAgg35 sizeOf35 rfl rfl (fun w hw j u hu => hcx w hw.s j u hu)) (idC_agg _)) (qm rfl (qm rfl (qq rfl (RD.subI rfl rfl (by omega) (by omega)) (qq rfl (RD.indexX (i := k - 1) (len := l.length) (cap := cap0) (b := b0) (off := 0) runUnderlying41 sizeOf35 rfl rfl (by omega) (by omega)) (qq rfl (RD.as (v := idV p) (RD.loadX (vs := idC p) isAgg35 sizeOf35 rfl rfl (fun w hw j u hu => hcp w hw.s j u hu)) (idC_agg _)) ?_)))))))))
   refine qq rfl (RD.eql_agg eqGuardType35 (eq_id x p) rfl rfl) (TE_nil ?_)
   first | refine pn_condD rfl (fun hc2 => ?_) (fun hc2 => ?_) | refine pn_condN rfl (fun hc2 => ?_) (fun hc2 => ?_) | refine pn_cond rfl (fun hc2 => ?_) (fun hc2 => ?_)
   ·refine sq (pl (qm rfl (qm rfl (qq rfl (RD.as (v := .slice (some ⟨b0, 0 + k * 32, none⟩) (l.length - k) (cap0 - k)) (RD.sliceX (l := k) (h := l.length) runUnderlying41 sizeOf35 rfl hRl ⟨_, rfl⟩ rfl (by omega) (Nat.le_refl _)) (by have hcl : l.length ≤ cap0 := hbo.1; show subVx 32 k l.length (.slice (some ⟨b0, 0, none⟩) l.length cap0) = _; simp only [subVx, ite_self]; rw [if_neg (by omega)])) (qa rfl (n0 (sq (sq (pl ?_)))))))))
    refine qa rfl (n0 (pn_block ?_))
    obtain ⟨k0, rfl⟩ : ∃ k0, k0 = k := ⟨k, rfl⟩; refine pn_loop (σ := Nat × Nat × List (Nat → Int)) (fun q => [(5, .int .i64 (q.2.1 : Int)), (3, .int .i64 (q.1 : Int)), (4, .slice (some ⟨b0, 0 + k0 * 32, none⟩) (l.length - k0) (cap0 - k0)), (0, .slice (some ⟨b0, 0, none⟩) l.length cap0)]) (fun q => bldMx 35 idC q.2.2 (some (b0, cap0, tl0)) ++ HC) (fun q => k0 ≤ q.1 ∧ q.1 < k0 + q.2.1 ∧ 1 ≤ q.2.1 ∧ k0 + q.2.1 ≤ l.length ∧ q.2.2.length = l.length ∧ BldOk 32 idC q.2.2 (some (b0, cap0, tl0)) ∧ SetOf (l.take (k0 + q.2.1)) (q.2.2.take q.1) ∧ ∀ j, k0 + q.2.1 - 1 ≤ j → q.2.2[j]? = l[j]?) (fun q => l.length - q.2.1) (k0, 1, l) ⟨Nat.le_refl _, Nat.lt_succ_self _, Nat.le_refl _, by show k0 + 1 ≤ l.length; omega, rfl, hbo, hnx.1 (by simpa using hc2), fun _ _ => rfl⟩ ⟨rfl, rfl, rfl, rfl, trivial⟩ (List.Sublist.refl _) ?_
    rintro ⟨k, k2, zs⟩ ⟨hk3, hk4, hk5, hk6, hzl, hbz, hset2, hdr⟩; dsimp only at hk3 hk4 hk5 hk6 hzl hset2 hdr ⊢; have hbz : BldOk 32 idC zs (some (b0, cap0, tl0)) := hbz
    refine sq (sq (pn_plain [2] rfl (qm rfl (qm rfl (qq rfl (RD.len_slice runUnderlying41 rfl) (qq rfl (RD.lss rfl rfl) (n0 ?_)))))))
    first | refine pn_condD rfl (fun hc3 => ?_) (fun hc3 => ?_) | refine pn_condN rfl (fun hc3 => ?_) (fun hc3 => ?_) | refine pn_cond rfl (fun hc3 => ?_) (fun hc3 => ?_)
    ·refine sk (sq (pn_block (sq ?_)))
     have hjl : k0 + k2 < l.length := (by omega); have hq9 : ∃ x, l[k0 + k2]? = some x := ⟨_, List.getElem?_eq_getElem hjl⟩; obtain ⟨y, hy⟩ := hq9; have hq9 : ∃ q, l[k0 + k2 - 1]? = some q := ⟨_, List.getElem?_eq_getElem (by omega)⟩; obtain ⟨q, hq⟩ := hq9; have hyz := hdr (k0 + k2) (by omega); have hqz := hdr (k0 + k2 - 1) (by omega); rw [hy] at hyz; rw [hq] at hqz; have hcy := hbz.cell (u := 35) idC_len hyz; have hcq := hbz.cell (u := 35) idC_len hqz; rw [show 0 + (k0 + k2) * 32 = 0 + k0 * 32 + k2 * 32 from by omega] at hcy; rw [show 0 + (k0 + k2 - 1) * 32 = 0 + k0 * 32 + (k2 - 1) * 32 from by omega] at hcq; have hnx := srt_next (m := k0 + k2 - 1) hsort hcan (by rw [show k0 + k2 - 1 + 1 = k0 + k2 from by omega]; exact hset2) hq (by rw [show k0 + k2 - 1 + 1 = k0 + k2 from by omega]; exact hy); rw [show k0 + k2 - 1 + 1 = k0 + k2 from by omega] at hnx
     refine pn_drawT [3, 8] [] [] [] (bldMx 35 idC zs (some (b0, cap0, tl0)) ++ HC) rfl rfl (by kernel_rfl) (by kernel_rfl) rfl rfl (qm rfl (qm rfl (qq rfl (RD.indexX (i := k2) (len := l.length - k0) (cap := cap0 - k0) (b := b0) (off := 0 + k0 * 32) runUnderlying41 sizeOf35 rfl rfl rfl (by omega)) (qq rfl (RD.as (v := idV y) (RD.loadX (vs := idC y) isAgg35 sizeOf35 rfl rfl (fun w hw j u hu => hcy w hw.s j u hu)) (idC_agg _)) (qm rfl (qm rfl (qq rfl (RD.subI rfl rfl (by omega) (by omega)) (qq rfl (RD.indexX (i := k2 - 1) (len := l.length - k0) (cap := cap0 - k0) (b := b0) (off := 0 + k0 * 32) runUnderlying41 sizeOf35 rfl rfl (by omega) (by omega)) (qq rfl (RD.as (v := idV q) (RD.loadX (vs := idC q) isAgg35 sizeOf35 rfl rfl (fun w hw j u hu => hcq w hw.s j u hu)) (idC_agg _)) ?_)))))))))
     refine qq rfl (RD.neq_agg eqGuardType35 (eq_id y q) rfl rfl) (TE_nil ?_)
     first | refine pn_condD rfl (fun hc4 => ?_) (fun hc4 => ?_) | refine pn_condN rfl (fun hc4 => ?_) (fun hc4 => ?_) | refine pn_cond rfl (fun hc4 => ?_) (fun hc4 => ?_)
     ·refine sq (psp (bldMx 35 idC zs (some (b0, cap0, tl0)) ++ HC) (pl (qm rfl (qm rfl (qm rfl (qm rfl (qq rfl (RD.indexX (i := k2) (len := l.length - k0) (cap := cap0 - k0) (b := b0) (off := 0 + k0 * 32) runUnderlying41 sizeOf35 rfl rfl rfl (by omega)) (ql rfl (RD.as (v := idV y) (RD.loadX (vs := idC y) isAgg35 sizeOf35 rfl rfl (fun w hw j u hu => hcy w hw.s j u hu)) (idC_agg _)) (qq rfl (RD.indexX (i := k) (len := l.length) (cap := cap0) (b := b0) (off := 0) runUnderlying41 sizeOf35 rfl rfl rfl (by omega)) ?_)))))))))
      refine TE_setE (i := k) (z := y) HC idC_len idC_one rfl rfl sizeOf35 trivial rfl rfl rfl (by omega) (by omega) (.inr (by simp [keys, bldMx])) (n0 (pl (qm rfl (qq rfl (RD.addI rfl rfl (by omega) (by omega)) (qa rfl (n0 (pl (qm rfl (qq rfl (RD.addI rfl rfl (by omega) (by omega)) ?_)))))))))
      refine qa rfl (n0 ?_)
      (first | exact pn_again (k + 1, k2 + 1, zs.set k y) ⟨by show k0 ≤ k + 1; omega, by show k + 1 < k0 + (k2 + 1); omega, by show 1 ≤ k2 + 1; omega, by show k0 + (k2 + 1) ≤ _; omega, by show (zs.set k y).length = _; rw [List.length_set]; exact hzl, hbz.set idC_len k y, by show SetOf (l.take (k0 + k2 + 1)) ((zs.set k y).take (k + 1)); rw [set_take y (by omega)]; exact hnx.2 (by simpa using hc4), fun j hj => by show (zs.set k y)[j]? = _; have hj' : k0 + (k2 + 1) - 1 ≤ j := hj; rw [List.getElem?_set_ne (by omega)]; exact hdr j (by omega)⟩ (by show l.length - (k2 + 1) < l.length - k2; omega) ⟨rfl, rfl, rfl, rfl, trivial⟩ (List.Sublist.refl _) | exact pn_again (k, k2 + 1, zs) ⟨hk3, by show k < k0 + (k2 + 1); omega, by show 1 ≤ k2 + 1; omega, by show k0 + (k2 + 1) ≤ _; omega, hzl, hbz, hnx.1 (by simpa using hc4), fun j hj => hdr j (by have hj' : k0 + (k2 + 1) - 1 ≤ j := hj; omega)⟩ (by show l.length - (k2 + 1) < l.length - k2; omega) ⟨rfl, rfl, rfl, rfl, trivial⟩ (List.Sublist.refl _))
     ·refine sk (pl (qm rfl (qq rfl (RD.addI rfl rfl (by omega) (by omega)) (qa rfl (n0 ?_)))))
      (first | exact pn_again (k + 1, k2 + 1, zs.set k y) ⟨by show k0 ≤ k + 1; omega, by show k + 1 < k0 + (k2 + 1); omega, by show 1 ≤ k2 + 1; omega, by show k0 + (k2 + 1) ≤ _; omega, by show (zs.set k y).length = _; rw [List.length_set]; exact hzl, hbz.set idC_len k y, by show SetOf (l.take (k0 + k2 + 1)) ((zs.set k y).take (k + 1)); rw [set_take y (by omega)]; exact hnx.2 (by simpa using hc4), fun j hj => by show (zs.set k y)[j]? = _; have hj' : k0 + (k2 + 1) - 1 ≤ j := hj; rw [List.getElem?_set_ne (by omega)]; exact hdr j (by omega)⟩ (by show l.length - (k2 + 1) < l.length - k2; omega) ⟨rfl, rfl, rfl, rfl, trivial⟩ (List.Sublist.refl _) | exact pn_again (k, k2 + 1, zs) ⟨hk3, by show k < k0 + (k2 + 1); omega, by show 1 ≤ k2 + 1; omega, by show k0 + (k2 + 1) ≤ _; omega, hzl, hbz, hnx.1 (by simpa using hc4), fun j hj => hdr j (by have hj' : k0 + (k2 + 1) - 1 ≤ j := hj; omega)⟩ (by show l.length - (k2 + 1) < l.length - k2; omega) ⟨rfl, rfl, rfl, rfl, trivial⟩ (List.Sublist.refl _))
    ·refine xt (sq (psp (bldMx 35 idC zs (some (b0, cap0, tl0)) ++ HC) (pl (qm rfl (qm rfl (qq rfl (RD.sliceX (l := k) (h := l.length) runUnderlying41 sizeOf35 rfl hRl ⟨_, rfl⟩ rfl (by omega) (Nat.le_refl _)) (TE_clearX (n := k) (l := zs) HC idC_len rfl rfl rfl trivial underlying41 zeroValue35 rfl zeroI_one (by show some (subVx 32 k l.length (.slice (some ⟨b0, 0, none⟩) l.length cap0)) = _; rw [← hzl]; rfl) (by omega) hbz (.inr (by simp [keys, bldMx])) ?_)))))))
     intro tl' hbt
     exact n0 (sq (pl (qm rfl (qm rfl (qq rfl (RD.sliceX (l := 0) (h := k) runUnderlying41 sizeOf35 rfl hRl rfl ⟨_, rfl⟩ (Nat.zero_le _) (by omega)) (qa rfl (n0 (rt (pn_done rfl rfl ⟨zs.take k, some (b0, cap0, tl'), by rwa [List.take_of_length_le (by omega)] at hset2, hbt, subVx_pre (n := l.length) (by rw [List.length_take]; omega), rfl⟩ (List.sublist_append_left _ _) (fun e he => .inl (by simp only [bldMx, List.mem_cons, List.not_mem_nil, or_false] at he; subst he; simp [keys, bldMx])))))))))))
   ·refine sk (pl (qm rfl (qq rfl (RD.addI rfl rfl (by omega) (by omega)) (qa rfl (n0 ?_)))))
    (exact pn_again (k + 1) ⟨by omega, by omega, by have h9 := hnx.2 (by simpa using hc2); rwa [← take_succ_of hx] at h9⟩ (by show l.length - (k + 1) < l.length - k; omega) ⟨rfl, rfl, trivial⟩ (List.Sublist.refl _))
  ·exact xt (sq (pl (qm rfl (qa rfl (n0 (rt (pn_done rfl rfl ⟨l, some (b0, cap0, tl0), setOf_take hset (by omega), hbo, rfl, rfl⟩ (List.sublist_append_left _ _) (fun e he => .inl (List.mem_map_of_mem he)))))))))
theorem c_hashSet (HX : Mem) (v : Value) (l : List (Nat → Int)) (w : World) (hb : Rdx 32 idC HX v l) (hcan : ∀ x ∈ l, IdCan x) (hok : ∀ x ∈ l, IdOk x) (hlen : l.length ≤ 1000000) (hH : Hp HX w) : Calls Tryz.prog 35 #[v] w (Ret w [] fun r H1 => ∃ xs st, SetOf l xs ∧ BldOk 32 idC xs st ∧ r = bldVx xs st ∧ H1 = bldMx 35 idC xs st) := by
 refine fn_enter (args := [_]) func35 rfl ntmps35 rfl hH (sq (pl (qa rfl (n0 (sq (pl (qm rfl (TE_call rfl rfl trivial call90 rfl rfl rfl (fun w hs' => c_cloneI HX _ l w (hs'.hp.sp (fun a => by simp -failIfUnchanged <;> omega)) hb hlen) ?_))))))))
 rintro v5 H1 ⟨st, hbo, rfl, rfl⟩ hX1
 refine qa rfl (n0 (sq (pl (qm rfl (TE_callR HX (bldMx 35 idC l st) (fun a => by simp -failIfUnchanged <;> omega) rfl rfl trivial call91 rfl rfl rfl (fun e he => .inl (hX1 e he)) (fun w hs' => c_sortB IdOk _ zeroI_ok Tryz.sort91 isAgg35 sizeOf35 idC_len idC_one idCmp idCmp_irr idCmp_tr idCmp_nt 92 #[] call92 [] (fun x y W hx hy hW => (c_hashCmp x y W hx hy).mono (by rintro e w' ⟨v, H1, rfl, ⟨rfl, rfl⟩, h1, h2, h3⟩; exact ⟨_, [], rfl, rfl, h1, h2, h3⟩)) _ l st hbo hok w (hs'.hp.sp (fun a => by simp -failIfUnchanged <;> omega)) (by omega)) ?_)))))
 rintro v7 H1 ⟨rfl, xs, hperm, hsort, rfl, hveq, hbo'⟩ hX2
 refine n0 (sq (pl (qm rfl (TE_callR HX (bldMx 35 idC xs st) (fun a => by simp -failIfUnchanged <;> omega) rfl rfl trivial call93 rfl rfl rfl hX2 (fun w hs' => by have h := c_compact [] xs st w hbo' (fun x hx => hcan x (hperm.mem_iff.1 hx)) hsort (by rw [hperm.length_eq]; exact hlen) (hs'.hp.sp (fun a => by simp -failIfUnchanged <;> omega)); rw [hveq] at h; exact h) ?_))))
 rintro v9 H1 ⟨ys, st', hset, hbo'', rfl, rfl⟩ hX3
 exact qa rfl (n0 (rt (dS (bldMx 35 idC ys st') rfl rfl ⟨ys, st', hset.congr (fun x => hperm.mem_iff), hbo'', rfl, rfl⟩ hX3)))
end Go.Proofs.YtcmnmigcalibdaaGreatDoor

namespace Go.Proofs.YtcmnmigcalibdaaGreatDoor
open Go Go.Mv
set_option maxRecDepth 8000
instance : Inhabited Rec := ⟨⟨0, 0, fun _ => 0, ⟨#[]⟩, false, fun _ => 0⟩⟩
theorem bd_id0 (w : World) : (Instr.build 35 #[]).run Tryz.prog w = .ok (idV fun _ => 0) w := by
  simp [Instr.build, Tryz.zeroValue35, Tryz.runUnderlying35, Tryz.sizeOf5, Value.cells, Instr.fill, idV]
end Go.Proofs.YtcmnmigcalibdaaGreatDoor
