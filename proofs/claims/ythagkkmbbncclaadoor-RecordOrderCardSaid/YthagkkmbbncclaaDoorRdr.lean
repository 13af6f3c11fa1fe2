import Derived.Test.YthagkkmbbncclaaDoorNum
namespace Go.Proofs.YthagkkmbbncclaaDoor
open Go Go.Mv
set_option maxRecDepth 8000
theorem lv_back {fn : Func} {C : Ctx} {R : Ending → World → Prop} {E : Env} {ds : List Deferred} {H : Mem} {s : Nat} {a a' : Option Addr} {n c n' c' b5 x2 x3 x5 : Nat} {ev : Int} (REST : Mem) (hH : ∀ w, Hp H w → Hp (([(x5, .cells #[.slice a n c] 35 (0, 0)), (x3, .cells #[.pointer (some ⟨b5, 0, none⟩)] 137 (0, 0)), (x2, .cells #[.pointer (some ⟨s, 0, none⟩)] 37 (0, 0)), (b5, .cells #[.int .i64 ev] 32 (0, 0))] ++ REST) ++ [(s, .cells #[.slice a' n' c'] 67 (0, 0))]) w) (hX : C.w0.heap.size ≤ s ∨ s ∈ C.X)
    (h : LV Tryd.prog fn C R E ds (([(x5, .cells #[.slice a n c] 35 (0, 0)), (x3, .cells #[.pointer (some ⟨b5, 0, none⟩)] 137 (0, 0)), (x2, .cells #[.pointer (some ⟨s, 0, none⟩)] 37 (0, 0)), (b5, .cells #[.int .i64 ev] 32 (0, 0))] ++ REST) ++ [(s, .cells #[if ev = 0 then .slice a' n' c' else .slice a n c] 67 (0, 0))])) : LV Tryd.prog fn C R E ({ target := .fn (.func 113) #[.pointer (some ⟨x3, 0, none⟩), .pointer (some ⟨x5, 0, none⟩), .pointer (some ⟨x2, 0, none⟩)], args := #[] } :: ds) H := by
  refine lv_call ([(x5, .cells #[.slice a n c] 35 (0, 0)), (x3, .cells #[.pointer (some ⟨b5, 0, none⟩)] 137 (0, 0)), (x2, .cells #[.pointer (some ⟨s, 0, none⟩)] 37 (0, 0)), (b5, .cells #[.int .i64 ev] 32 (0, 0))] ++ REST) [(s, .cells #[.slice a' n' c'] 67 (0, 0))] hH Tryd.call113 (allC (Q := fun k => C.w0.heap.size ≤ k ∨ k ∈ C.X) hX (allN (Q := fun k => C.w0.heap.size ≤ k ∨ k ∈ C.X))) (fun w h => ?_) (post' := fun _ H1 => H1 = [(s, .cells #[if ev = 0 then .slice a' n' c' else .slice a n c] 67 (0, 0))]) ?_
  · exact c_back1 s b5 x2 x3 x5 a a' n c n' c' ev w (h.sub (List.Sublist.append_right (List.sublist_append_left _ _) _))
  · rintro v H1 rfl -
    exact h
/-- What reading bytes leaves. -/
def ReadsB (HX : Mem) (s : Nat) (ys : List UInt8) (d : Dr (List UInt8)) (v : Value) (H1 : Mem) : Prop :=
  (∃ b r v' x H2, d = .ok b r ∧ v = .tuple #[x, .int .i64 0] ∧ RetB 5 x H2 b ∧ H1 = H2 ++ srcM s v' HX ∧ Rdb HX v' r ∧ r.length ≤ ys.length) ∨
  (∃ e v' r, d = .err e ∧ e ≠ 0 ∧ v = .tuple #[.slice none 0 0, .int .i64 e] ∧ H1 = srcM s v' HX ∧ Rdb HX v' r ∧ r.length ≤ ys.length)

theorem c_raw (HX : Mem) (s n : Nat) (sv : Value) (ys : List UInt8) (w : World) (hb : Rdb HX sv ys) (hlen : ys.length ≤ 2199023255552) (hw : Hp (srcM s sv HX) w) : Calls Tryd.prog 41 #[.pointer (some ⟨s, 0, none⟩), .int .i64 (n : Int)] w (Ret w (keys (srcM s sv HX)) (ReadsB HX s ys (rawD n ys))) := by
  refine fn_enter (args := [_, _]) Tryd.func41 rfl Tryd.ntmps41 rfl hw ?_
  refine pn_seq ?_
  refine pn_plain [] rfl ?_
  refine TE_q rfl rfl (RD.assign rfl) rfl ?_
  refine TE_q rfl rfl (RD.assign rfl) rfl ?_
  refine TE_nil0 ?_
  refine pn_seq ?_
  refine pn_block ?_
  refine pn_seq ?_
  refine pn_plain [] rfl ?_
  refine TE_q rfl rfl (RD.move rfl) rfl ?_
  refine TE_q rfl rfl (RD.ptr_eql_nil Tryd.runUnderlying37 rfl rfl) rfl ?_
  refine TE_q rfl rfl (RD.assign rfl) rfl ?_
  refine TE_nil0 ?_
  refine pn_condF rfl ?_
  refine pn_seq ?_
  refine pn_plain [] rfl ?_
  refine TE_q rfl rfl (RD.move rfl) rfl ?_
  refine TE_q rfl rfl (RD.as (v := .bool false) (RD.lss rfl rfl) (by rw [decide_eq_false (by omega)])) rfl ?_
  refine TE_q rfl rfl (RD.assign rfl) rfl ?_
  refine TE_nil0 ?_
  refine pn_condF rfl ?_
  refine pn_seq ?_
  refine pn_plain [5] rfl ?_
  refine TE_q rfl rfl (RD.move rfl) rfl ?_
  refine TE_q rfl rfl (RD.move rfl) rfl ?_
  refine TE_q rfl rfl (RD.nilCheckP rfl) rfl ?_
  refine TE_q rfl rfl (RD.fieldAddr (o := 0) Tryd.runUnderlying67 rfl rfl Tryd.sizeOf35 rfl) rfl ?_
  refine TE_l rfl rfl trivial rfl (RD.load (i := 0) Tryd.isAgg35 rfl rfl rfl) rfl ?_
  refine TE_q rfl rfl (RD.lenR Tryd.runUnderlying35 rfl hb) rfl ?_
  refine TE_q rfl rfl (RD.gtr rfl rfl) rfl ?_
  refine TE_q rfl rfl (RD.assign rfl) rfl ?_
  refine TE_nil0 ?_
  first | refine pn_condD rfl (fun hc2 => ?_) (fun hc2 => ?_) | refine pn_condN rfl (fun hc2 => ?_) (fun hc2 => ?_) | refine pn_cond rfl (fun hc2 => ?_) (fun hc2 => ?_)
  · refine pn_seq ?_
    refine pn_plain [] rfl ?_
    refine TE_q rfl rfl (RD.assign rfl) rfl ?_
    refine TE_q rfl rfl (RD.assign rfl) rfl ?_
    refine TE_nil0 ?_
    refine pn_ret ?_
    exact pn_doneF rfl ⟨_, _, rfl, rfl, _, _, rfl, rfl, rfl⟩ (.inr ⟨10, sv, ys, by simp only [rawD]; rw [if_pos (by omega)], by decide, rfl, rfl, hb, Nat.le_refl _⟩) (fun w h => h) in_src
  · refine pn_skip ?_
    refine pn_seq ?_
    refine pn_plain [] rfl ?_
    refine TE_q rfl rfl (RD.move rfl) rfl ?_
    have hle : n ≤ ys.length := (by omega); have hb2 := hb.cut hle; obtain ⟨a2, c2, hs2⟩ := hb2.shape; rw [hs2] at hb2
    refine TE_q rfl rfl (RD.nilCheckP rfl) rfl ?_
    refine TE_q rfl rfl (RD.fieldAddr (o := 0) Tryd.runUnderlying67 rfl rfl Tryd.sizeOf35 rfl) rfl ?_
    refine TE_l rfl rfl trivial rfl (RD.load (i := 0) Tryd.isAgg35 rfl rfl rfl) rfl ?_
    refine TE_q rfl rfl (RD.move rfl) rfl ?_
    refine TE_q rfl rfl (RD.sliceR (l := 0) (h := n) Tryd.runUnderlying35 Tryd.sizeOf5 rfl hb rfl ⟨_, rfl⟩ (Nat.zero_le _) hle) rfl ?_
    refine TE_call rfl rfl trivial Tryd.call32 rfl rfl rfl (fun w hs' => c_clone HX _ (ys.take n) w (hs'.hp.left.sub (List.sublist_cons_self _ _)) (by have := hb.sub (Nat.zero_le n) hle; rw [List.drop_zero] at this; exact this.bytes) (by rw [List.length_take]; omega)) ?_
    rintro v27 H6 hr hX6
    refine TE_q rfl rfl (RD.assign rfl) rfl ?_
    refine TE_nil0 ?_
    refine pn_seq ?_
    refine pn_perm (srcM s sv HX ++ H6) (fun w h => h.perm List.perm_append_comm) ?_
    refine pn_plain [] rfl ?_
    refine TE_q rfl rfl (RD.move rfl) rfl ?_
    refine TE_q rfl rfl (RD.move rfl) rfl ?_
    refine TE_q rfl rfl (RD.nilCheckP rfl) rfl ?_
    refine TE_q rfl rfl (RD.fieldAddr (o := 0) Tryd.runUnderlying67 rfl rfl Tryd.sizeOf35 rfl) rfl ?_
    refine TE_l rfl rfl trivial rfl (RD.load (i := 0) Tryd.isAgg35 rfl rfl rfl) rfl ?_
    refine TE_q rfl rfl (RD.move rfl) rfl ?_
    refine TE_q rfl rfl (RD.as (RD.sliceR (l := n) (h := ys.length) Tryd.runUnderlying35 Tryd.sizeOf5 rfl hb ⟨_, rfl⟩ rfl hle (Nat.le_refl _)) hs2) rfl ?_
    refine TE_q rfl rfl (RD.nilCheckP rfl) rfl ?_
    refine TE_q rfl rfl (RD.fieldAddr (o := 0) Tryd.runUnderlying67 rfl rfl Tryd.sizeOf35 rfl) rfl ?_
    refine TE_store (i := 0) rfl Tryd.sizeOf35 trivial rfl rfl rfl rfl rfl rfl (.inr (by simp [srcM])) ?_
    refine TE_nil0 ?_
    refine pn_seq ?_
    refine pn_plain [] rfl ?_
    refine TE_q rfl rfl (RD.move rfl) rfl ?_
    refine TE_q rfl rfl (RD.assign rfl) rfl ?_
    refine TE_q rfl rfl (RD.assign rfl) rfl ?_
    refine TE_nil0 ?_
    refine pn_ret ?_
    exact pn_doneF rfl ⟨_, _, rfl, rfl, _, _, rfl, rfl, rfl⟩ (.inl ⟨_, _, _, _, H6, by simp only [rawD]; rw [if_neg (by omega)], rfl, hr, rfl, hb2, by simp⟩) (fun w h => Hp.perm (A := srcM s _ HX ++ H6) h List.perm_append_comm) (allA (Q := fun k => k ∈ keys (srcM s sv HX) ∨ _ ≤ k) (fun e he => .inr (hX6 e he)) in_src)

theorem c_left (HX : Mem) (s : Nat) (sv : Value) (ys : List UInt8) (w : World) (hb : Rdb HX sv ys) (hw : Hp (srcM s sv HX) w) : Calls Tryd.prog 19 #[.pointer (some ⟨s, 0, none⟩)] w (Ret w [] fun v H1 => v = .int .i64 ys.length ∧ H1 = []) := by
  refine fn_enter (args := [_]) Tryd.func19 rfl Tryd.ntmps19 rfl hw ?_
  refine pn_seq ?_
  refine pn_plain [] rfl ?_
  refine TE_q rfl rfl (RD.assign rfl) rfl ?_
  refine TE_nil0 ?_
  refine pn_seq ?_
  refine pn_seq ?_
  refine pn_plain [] rfl ?_
  refine TE_q rfl rfl (RD.move rfl) rfl ?_
  refine TE_q rfl rfl (RD.ptr_eql_nil Tryd.runUnderlying37 rfl rfl) rfl ?_
  refine TE_nil0 ?_
  refine pn_condF rfl ?_
  refine pn_skip ?_
  refine pn_seq ?_
  refine pn_plain [4] rfl ?_
  refine TE_q rfl rfl (RD.move rfl) rfl ?_
  refine TE_q rfl rfl (RD.nilCheckP rfl) rfl ?_
  refine TE_q rfl rfl (RD.fieldAddr (o := 0) Tryd.runUnderlying67 rfl rfl Tryd.sizeOf35 rfl) rfl ?_
  refine TE_l rfl rfl trivial rfl (RD.load (i := 0) Tryd.isAgg35 rfl rfl rfl) rfl ?_
  refine TE_q rfl rfl (RD.lenR Tryd.runUnderlying35 rfl hb) rfl ?_
  refine TE_q rfl rfl (RD.assign rfl) rfl ?_
  refine TE_nil0 ?_
  refine pn_ret ?_
  exact pn_done rfl rfl ⟨rfl, rfl⟩ (List.nil_sublist _) (by simp)

set_option maxHeartbeats 2000000 in

theorem c_bytes (HX : Mem) (s most : Nat) (sv : Value) (ys : List UInt8) (w : World) (hb : Rdb HX sv ys) (hlen : ys.length ≤ 2199023255552) (hm : most ≤ 9223372036854775807) (hw : Hp (srcM s sv HX) w) : Calls Tryd.prog 69 #[.pointer (some ⟨s, 0, none⟩), .int .i64 (most : Int)] w (Ret w (keys (srcM s sv HX)) (ReadsB HX s ys (bytesD most ys))) := by
  obtain ⟨a, c, rfl⟩ := hb.shape
  generalize hn : ys.length = n at *
  refine fn_enter (args := [_, _]) Tryd.func69 rfl Tryd.ntmps69 rfl hw ?_
  refine pn_seq ?_
  refine pn_plain [] rfl ?_
  refine TE_q rfl rfl (RD.assign rfl) rfl ?_
  refine TE_alloc rfl Tryd.zeroValue32 trivial rfl fun b5 hb5 => ?_
  refine TE_nil0 ?_
  refine pn_seq ?_
  refine pn_seq ?_
  refine pn_plain [] rfl ?_
  refine TE_q rfl rfl (RD.move rfl) rfl ?_
  refine TE_q rfl rfl (RD.ptr_eql_nil Tryd.runUnderlying37 rfl rfl) rfl ?_
  refine TE_nil0 ?_
  refine pn_condF rfl ?_
  refine pn_skip ?_
  refine pn_seq ?_
  refine pn_plain [] rfl ?_
  refine TE_q rfl rfl (RD.move rfl) rfl ?_
  refine TE_call rfl rfl trivial Tryd.call87 rfl rfl rfl (fun w hs' => c_back s b5 a n c w (hs'.hp.left.sub (.cons _ (.cons_cons _ (List.nil_sublist _))))) ?_
  rintro v10 H1 ⟨x2, x3, x5, rfl, rfl⟩ hxs
  refine TE_defer rfl trivial rfl rfl ?_
  refine TE_nil0 ?_
  refine pn_seq ?_
  refine pn_pickT [3, 0, 1, 2] [_, _, _, _] (srcM s (.slice a n c) HX) rfl rfl rfl ?_
  refine pn_plain [2, 3] rfl ?_
  refine TE_q rfl rfl (RD.move rfl) rfl ?_
  refine TE_q rfl rfl (RD.move rfl) rfl ?_
  refine TE_q rfl rfl (RD.as (RD.max2 rfl rfl) (show _ = Value.int .i64 (most : Int) by congr 1; split <;> omega)) rfl ?_
  refine TE_q rfl rfl (RD.as (RD.conv Tryd.runUnderlying3 Tryd.runUnderlying74 rfl) (u64_len (by omega))) rfl ?_
  refine TE_callT [_, _, _, _] (srcM s (.slice a n c) HX) rfl rfl rfl trivial Tryd.call71 rfl rfl rfl (fun e he => .inr (mem_keys.2 ⟨e, he, rfl⟩)) (fun w hs' => c_num HX s most _ ys w hb (by omega) (by omega) (hs'.hp.left.right (A := [_, _, _, _]))) ?_
  rintro v16 H4 (⟨k, r, v1, hd, rfl, rfl, hb1, hl1⟩ | ⟨e, v1, r, hd, he, rfl, rfl, hb1, hl1⟩) hX1
  all_goals refine TE_q rfl rfl (RD.move rfl) rfl ?_
  all_goals refine TE_q rfl rfl (RD.extract rfl rfl) rfl ?_
  all_goals refine TE_q rfl rfl (RD.extract rfl rfl) rfl ?_
  all_goals refine TE_q rfl rfl (RD.assign rfl) rfl ?_
  all_goals refine TE_store (i := 0) rfl Tryd.sizeOf32 trivial rfl rfl rfl rfl rfl rfl (.inl hb5) ?_
  all_goals refine TE_nil0 ?_
  all_goals refine pn_seq ?_
  all_goals refine pn_seq ?_
  all_goals refine pn_plain [] rfl ?_
  all_goals refine TE_l rfl rfl trivial rfl (RD.load (i := 0) Tryd.isAgg32 rfl rfl rfl) rfl ?_
  all_goals first | refine TE_q rfl rfl (RD.as (v := .bool true) (RD.neq rfl rfl) (by rw [decide_eq_false he]; rfl)) rfl ?_ | refine TE_q rfl rfl (RD.neq rfl rfl) rfl ?_
  all_goals refine TE_nil0 ?_
  all_goals first
    | (
        refine pn_condT rfl ?_
        refine pn_seq ?_
        refine pn_drawT [] [0] [1, 2, 3] [_, _, _, _] (srcM s v1 HX) rfl rfl (by kernel_rfl) (by kernel_rfl) rfl rfl ?_
        refine TE_l rfl rfl trivial rfl (RD.load (i := 0) Tryd.isAgg32 rfl rfl rfl) rfl ?_
        refine TE_q rfl rfl (RD.assign rfl) rfl ?_
        refine TE_store (i := 0) rfl Tryd.sizeOf32 trivial rfl rfl rfl rfl rfl rfl (.inl hb5) ?_
        refine TE_nil ?_
        refine pn_ret ?_
        obtain ⟨a9, c9, rfl⟩ := hb1.shape; exact lv_ret (lv_back (HX) (fun w h => (Hp.pickT (A := [_, _, _, _, _]) (T := HX) (is := [4, 1, 2, 3, 0]) (h) rfl rfl).perm (List.perm_append_comm (l₁ := [_]))) (hX1 (s, _) List.mem_cons_self) (lv_end rfl ⟨_, _, rfl, rfl, _, _, b5, 0, rfl, rfl, load_cell (i := 3) Tryd.isAgg32 rfl rfl, rfl⟩ (.inr ⟨e, _, ys, by simp only [bytesD, hd], he, rfl, rfl, by rw [if_neg he]; exact hb, by omega⟩) (fun w h => (Hp.pickT (A := [_, _, _, _, _]) (T := HX) (is := [0]) (h.perm (List.perm_append_comm (l₂ := [_]))) rfl rfl)) in_src)))
    | (
        refine pn_condF rfl ?_
        refine pn_skip ?_
        refine pn_seq ?_
        refine pn_plain [2] rfl ?_
        refine TE_q rfl rfl (RD.move rfl) rfl ?_
        refine TE_q rfl rfl (RD.move rfl) rfl ?_
        have hk := (numD_ok hd).2.1
        refine TE_q rfl rfl (RD.as (RD.conv Tryd.runUnderlying74 Tryd.runUnderlying3 rfl) (by rw [wrap64_id (by omega) (by omega)])) rfl ?_
        refine TE_callT [_, _, _, _] (srcM s v1 HX) rfl rfl rfl trivial Tryd.call41 rfl rfl rfl hX1 (fun w hs' => c_raw HX s k v1 r w hb1 (by omega) (hs'.hp.left.right (A := [_, _, _, _]))) ?_
        rintro v25 H3 (⟨b, r2, v2, x, H2, hd2, rfl, hr2, rfl, hb2, hl2⟩ | ⟨e, v2, r2, hd2, he, rfl, rfl, hb2, hl2⟩) hX2
        all_goals refine TE_q rfl rfl (RD.extract rfl rfl) rfl ?_
        all_goals refine TE_q rfl rfl (RD.extract rfl rfl) rfl ?_
        all_goals refine TE_q rfl rfl (RD.assign rfl) rfl ?_
        all_goals refine TE_store (i := 0) rfl Tryd.sizeOf32 trivial rfl rfl rfl rfl rfl rfl (.inl hb5) ?_
        all_goals refine TE_nil0 ?_
        all_goals refine pn_ret ?_
        all_goals (first | (obtain ⟨a9, c9, rfl⟩ := hb2.shape; exact lv_ret (lv_back (H2 ++ HX) (fun w h => (Hp.pickT (A := [_, _, _, _, _]) (T := H2 ++ HX) (is := [4, 1, 2, 3, 0]) (Hp.perm (A := [_, _, _, _] ++ (H2 ++ srcM s _ HX)) h (List.Perm.append_left _ List.perm_middle)) rfl rfl).perm (List.perm_append_comm (l₁ := [_]))) (hX2 (s, _) (List.mem_append_right _ List.mem_cons_self)) (lv_end rfl ⟨_, _, rfl, rfl, _, _, b5, 0, rfl, rfl, load_cell (i := 3) Tryd.isAgg32 rfl rfl, rfl⟩ (.inl ⟨b, r2, .slice a9 r2.length c9, x, H2, by simp only [bytesD, hd, hd2], rfl, hr2, rfl, hb2, by omega⟩) (fun w h => Hp.perm (A := (s, .cells #[.slice a9 r2.length c9] 67 (0, 0)) :: (H2 ++ HX)) ((Hp.pickT (A := [_, _, _, _, _]) (T := H2 ++ HX) (is := [0]) (h.perm (List.perm_append_comm (l₂ := [_]))) rfl rfl)) List.perm_middle.symm) (allA (Q := fun k => k ∈ _ ∨ _ ≤ k) (fun e he => (hX2 e (List.mem_append_left _ he)).symm) in_src)))) | (obtain ⟨a9, c9, rfl⟩ := hb2.shape; exact lv_ret (lv_back (HX) (fun w h => (Hp.pickT (A := [_, _, _, _, _]) (T := HX) (is := [4, 1, 2, 3, 0]) (h) rfl rfl).perm (List.perm_append_comm (l₁ := [_]))) (hX2 (s, _) List.mem_cons_self) (lv_end rfl ⟨_, _, rfl, rfl, _, _, b5, 0, rfl, rfl, load_cell (i := 3) Tryd.isAgg32 rfl rfl, rfl⟩ (.inr ⟨e, _, ys, by simp only [bytesD, hd, hd2], he, rfl, rfl, by rw [if_neg he]; exact hb, by omega⟩) (fun w h => (Hp.pickT (A := [_, _, _, _, _]) (T := HX) (is := [0]) (h.perm (List.perm_append_comm (l₂ := [_]))) rfl rfl)) in_src)))))
    | (
        first | refine pn_condD rfl (fun hc1 => ?_) (fun hc1 => ?_) | refine pn_condN rfl (fun hc1 => ?_) (fun hc1 => ?_) | refine pn_cond rfl (fun hc1 => ?_) (fun hc1 => ?_)
        · refine pn_seq ?_
          refine pn_drawT [] [0] [1, 2, 3] [_, _, _, _] (srcM s v1 HX) rfl rfl (by kernel_rfl) (by kernel_rfl) rfl rfl ?_
          refine TE_l rfl rfl trivial rfl (RD.load (i := 0) Tryd.isAgg32 rfl rfl rfl) rfl ?_
          refine TE_q rfl rfl (RD.assign rfl) rfl ?_
          refine TE_store (i := 0) rfl Tryd.sizeOf32 trivial rfl rfl rfl rfl rfl rfl (.inl hb5) ?_
          refine TE_nil ?_
          refine pn_ret ?_
          obtain ⟨a9, c9, rfl⟩ := hb1.shape; exact lv_ret (lv_back (HX) (fun w h => (Hp.pickT (A := [_, _, _, _, _]) (T := HX) (is := [4, 1, 2, 3, 0]) (h) rfl rfl).perm (List.perm_append_comm (l₁ := [_]))) (hX1 (s, _) List.mem_cons_self) (lv_end rfl ⟨_, _, rfl, rfl, _, _, b5, 0, rfl, rfl, load_cell (i := 3) Tryd.isAgg32 rfl rfl, rfl⟩ (.inr ⟨e, _, ys, by simp only [bytesD, hd], he, rfl, rfl, by rw [if_neg he]; exact hb, by omega⟩) (fun w h => (Hp.pickT (A := [_, _, _, _, _]) (T := HX) (is := [0]) (h.perm (List.perm_append_comm (l₂ := [_]))) rfl rfl)) in_src))
        · refine pn_skip ?_
          refine pn_seq ?_
          refine pn_plain [2] rfl ?_
          refine TE_q rfl rfl (RD.move rfl) rfl ?_
          refine TE_q rfl rfl (RD.move rfl) rfl ?_
          have hk := (numD_ok hd).2.1
          refine TE_q rfl rfl (RD.as (RD.conv Tryd.runUnderlying74 Tryd.runUnderlying3 rfl) (by rw [wrap64_id (by omega) (by omega)])) rfl ?_
          refine TE_callT [_, _, _, _] (srcM s v1 HX) rfl rfl rfl trivial Tryd.call41 rfl rfl rfl hX1 (fun w hs' => c_raw HX s k v1 r w hb1 (by omega) (hs'.hp.left.right (A := [_, _, _, _]))) ?_
          rintro v25 H3 (⟨b, r2, v2, x, H2, hd2, rfl, hr2, rfl, hb2, hl2⟩ | ⟨e, v2, r2, hd2, he, rfl, rfl, hb2, hl2⟩) hX2
          all_goals refine TE_q rfl rfl (RD.extract rfl rfl) rfl ?_
          all_goals refine TE_q rfl rfl (RD.extract rfl rfl) rfl ?_
          all_goals refine TE_q rfl rfl (RD.assign rfl) rfl ?_
          all_goals refine TE_store (i := 0) rfl Tryd.sizeOf32 trivial rfl rfl rfl rfl rfl rfl (.inl hb5) ?_
          all_goals refine TE_nil0 ?_
          all_goals refine pn_ret ?_
          all_goals (first | (obtain ⟨a9, c9, rfl⟩ := hb2.shape; exact lv_ret (lv_back (H2 ++ HX) (fun w h => (Hp.pickT (A := [_, _, _, _, _]) (T := H2 ++ HX) (is := [4, 1, 2, 3, 0]) (Hp.perm (A := [_, _, _, _] ++ (H2 ++ srcM s _ HX)) h (List.Perm.append_left _ List.perm_middle)) rfl rfl).perm (List.perm_append_comm (l₁ := [_]))) (hX2 (s, _) (List.mem_append_right _ List.mem_cons_self)) (lv_end rfl ⟨_, _, rfl, rfl, _, _, b5, 0, rfl, rfl, load_cell (i := 3) Tryd.isAgg32 rfl rfl, rfl⟩ (.inl ⟨b, r2, .slice a9 r2.length c9, x, H2, by simp only [bytesD, hd, hd2], rfl, hr2, rfl, hb2, by omega⟩) (fun w h => Hp.perm (A := (s, .cells #[.slice a9 r2.length c9] 67 (0, 0)) :: (H2 ++ HX)) ((Hp.pickT (A := [_, _, _, _, _]) (T := H2 ++ HX) (is := [0]) (h.perm (List.perm_append_comm (l₂ := [_]))) rfl rfl)) List.perm_middle.symm) (allA (Q := fun k => k ∈ _ ∨ _ ≤ k) (fun e he => (hX2 e (List.mem_append_left _ he)).symm) in_src)))) | (obtain ⟨a9, c9, rfl⟩ := hb2.shape; exact lv_ret (lv_back (HX) (fun w h => (Hp.pickT (A := [_, _, _, _, _]) (T := HX) (is := [4, 1, 2, 3, 0]) (h) rfl rfl).perm (List.perm_append_comm (l₁ := [_]))) (hX2 (s, _) List.mem_cons_self) (lv_end rfl ⟨_, _, rfl, rfl, _, _, b5, 0, rfl, rfl, load_cell (i := 3) Tryd.isAgg32 rfl rfl, rfl⟩ (.inr ⟨e, _, ys, by simp only [bytesD, hd, hd2], he, rfl, rfl, by rw [if_neg he]; exact hb, by omega⟩) (fun w h => (Hp.pickT (A := [_, _, _, _, _]) (T := HX) (is := [0]) (h.perm (List.perm_append_comm (l₂ := [_]))) rfl rfl)) in_src)))))

end Go.Proofs.YthagkkmbbncclaaDoor
