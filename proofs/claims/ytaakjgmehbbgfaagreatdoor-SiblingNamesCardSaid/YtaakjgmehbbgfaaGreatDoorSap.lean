import Derived.Test.YtaakjgmehbbgfaaGreatDoorSrl
namespace Go.Proofs.YtaakjgmehbbgfaaGreatDoor
open Go Go.Mv
set_option maxRecDepth 8000
theorem c_outdoes2 (x y : Rec) (w : World) (hy : RecOk y) : Calls Tryz.prog 51 #[recV x, recV y] w (Ret w [] fun v H1 => v = .bool (outdoesB y x) ∧ H1 = []) := by
  refine fn_enter (args := [_, _]) Tryz.func51 rfl Tryz.ntmps51 rfl (Hp.nil w) ?_
  refine pn_seq ?_
  refine pn_plain [] rfl ?_
  refine TE_box rfl rfl trivial rfl fun b2 hb2 => ?_
  refine TE_box rfl rfl trivial rfl fun b3 hb3 => ?_
  refine TE_q rfl rfl (RD.assign rfl) rfl ?_
  refine TE_nil0 ?_
  refine pn_seq ?_
  refine pn_plain [] rfl ?_
  refine TE_l rfl rfl trivial rfl (RD.loadA (i := 0) Tryz.isAgg40 Tryz.sizeOf40 rfl rfl (Nat.le_of_ble_eq_true rfl) (rec_all _)) rfl ?_
  refine TE_l rfl rfl trivial rfl (RD.loadA (i := 1) Tryz.isAgg86 Tryz.sizeOf86 rfl rfl (Nat.le_of_ble_eq_true rfl) (rec_all _)) rfl ?_
  refine TE_call rfl rfl trivial Tryz.call20 rfl rfl rfl (fun w hs' => c_outdoes y x w hy) ?_
  rintro v7 H2 ⟨rfl, rfl⟩ -
  refine TE_q rfl rfl (RD.assign rfl) rfl ?_
  refine TE_nil0 ?_
  refine pn_ret ?_
  exact pn_done rfl rfl ⟨rfl, rfl⟩ (List.nil_sublist _) (by simp)

theorem c_apply1 (br : Nat) (x r : Rec) (w : World) (hH : Hp [(br, .cells (recV r).cells 40 (0, 0))] w) : Calls Tryz.prog 49 #[recV x, .pointer (some ⟨br, 0, none⟩)] w (Ret w [] fun v H1 => v = .bool (decide (dotK x = dotK r)) ∧ H1 = []) := by
  refine fn_enter (args := [_, _]) Tryz.func49 rfl Tryz.ntmps49 rfl hH ?_
  refine pn_seq ?_
  refine pn_plain [] rfl ?_
  refine TE_box rfl rfl trivial rfl fun b2 hb2 => ?_
  refine TE_q rfl rfl (RD.assign rfl) rfl ?_
  refine TE_nil0 ?_
  refine pn_seq ?_
  refine pn_plain [] rfl ?_
  refine TE_q rfl rfl (RD.fieldAddr (o := 0) Tryz.runUnderlying40 rfl rfl Tryz.sizeOf33 rfl) rfl ?_
  refine TE_l rfl rfl trivial rfl (RD.loadA (i := 0) Tryz.isAgg33 Tryz.sizeOf33 rfl rfl (Nat.le_of_ble_eq_true rfl) (rec_dot _)) rfl ?_
  refine TE_q rfl rfl (RD.fieldAddr (o := 0) Tryz.runUnderlying40 rfl rfl Tryz.sizeOf33 rfl) rfl ?_
  refine TE_l rfl rfl trivial rfl (RD.loadA (i := 1) Tryz.isAgg33 Tryz.sizeOf33 rfl rfl (Nat.le_of_ble_eq_true rfl) (rec_dot _)) rfl ?_
  refine TE_q rfl rfl (RD.as (v := .bool (decide (dotK x = dotK r))) (RD.eql_agg Tryz.eqGuardType33 (eq_dot x.s x.c r.s r.c) rfl rfl) (congrArg Value.bool eq_dotK)) rfl ?_
  refine TE_q rfl rfl (RD.assign rfl) rfl ?_
  refine TE_nil0 ?_
  refine pn_ret ?_
  exact pn_done rfl rfl ⟨rfl, rfl⟩ (List.nil_sublist _) (by simp)

theorem c_apply2 (x y : Rec) (w : World) : Calls Tryz.prog 55 #[recV x, recV y] w (Ret w [] fun v H1 => v = .int .i64 (dotCmp x.s x.c y.s y.c) ∧ H1 = []) := by
  refine fn_enter (args := [_, _]) Tryz.func55 rfl Tryz.ntmps55 rfl (Hp.nil w) ?_
  refine pn_seq ?_
  refine pn_plain [] rfl ?_
  refine TE_box rfl rfl trivial rfl fun b2 hb2 => ?_
  refine TE_box rfl rfl trivial rfl fun b3 hb3 => ?_
  refine TE_q rfl rfl (RD.assign rfl) rfl ?_
  refine TE_nil0 ?_
  refine pn_seq ?_
  refine pn_plain [] rfl ?_
  refine TE_q rfl rfl (RD.fieldAddr (o := 0) Tryz.runUnderlying40 rfl rfl Tryz.sizeOf33 rfl) rfl ?_
  refine TE_l rfl rfl trivial rfl (RD.loadA (i := 1) Tryz.isAgg33 Tryz.sizeOf33 rfl rfl (Nat.le_of_ble_eq_true rfl) (rec_dot _)) rfl ?_
  refine TE_q rfl rfl (RD.fieldAddr (o := 0) Tryz.runUnderlying40 rfl rfl Tryz.sizeOf33 rfl) rfl ?_
  refine TE_l rfl rfl trivial rfl (RD.loadA (i := 0) Tryz.isAgg33 Tryz.sizeOf33 rfl rfl (Nat.le_of_ble_eq_true rfl) (rec_dot _)) rfl ?_
  refine TE_call rfl rfl trivial Tryz.call39 rfl rfl rfl (fun w hs' => c_dotCompare x.s x.c y.s y.c w) ?_
  rintro v9 H4 ⟨rfl, rfl⟩ -
  refine TE_q rfl rfl (RD.assign rfl) rfl ?_
  refine TE_nil0 ?_
  refine pn_ret ?_
  exact pn_done rfl rfl ⟨rfl, rfl⟩ (List.nil_sublist _) (by simp)

theorem c_staying (bs : Nat) (n : Rec) (w : World) : Calls Tryz.prog 53 #[.pointer (some ⟨bs, 0, none⟩), recV n] w (Ret w [] fun v H1 => ∃ bp bf, v = .func (.func 85) #[] #[.pointer (some ⟨bp, 0, none⟩), .pointer (some ⟨bf, 0, none⟩)] ∧ H1 = (bf, .cells #[.func (.func 41) #[recV n] #[]] 77 (0, 0)) :: (bp, .cells #[.pointer (some ⟨bs, 0, none⟩)] 24 (0, 0)) :: []) := by
  refine fn_enter (args := [_, _]) Tryz.func53 rfl Tryz.ntmps53 rfl (Hp.nil w) ?_
  refine pn_seq ?_
  refine pn_plain [] rfl ?_
  refine TE_box rfl rfl trivial rfl fun b2 hb2 => ?_
  refine TE_box rfl rfl trivial rfl fun b3 hb3 => ?_
  refine TE_q rfl rfl (RD.assign rfl) rfl ?_
  refine TE_nil0 ?_
  refine pn_seq ?_
  refine pn_plain [] rfl ?_
  refine TE_l rfl rfl trivial rfl (RD.loadA (i := 0) Tryz.isAgg86 Tryz.sizeOf86 rfl rfl (Nat.le_of_ble_eq_true rfl) (rec_all _)) rfl ?_
  refine TE_q rfl rfl (RD.makeFunc rfl rfl) rfl ?_
  refine TE_alloc rfl Tryz.zeroValue77 trivial rfl fun b5 hb5 => ?_
  refine TE_storeW (i := 0) rfl Tryz.sizeOf77 trivial rfl rfl rfl rfl rfl rfl (.inl (by assumption)) ?_
  refine TE_nil0 ?_
  refine pn_seq ?_
  refine pn_plain [] rfl ?_
  refine TE_q rfl rfl (RD.makeFunc rfl rfl) rfl ?_
  refine TE_q rfl rfl (RD.assign rfl) rfl ?_
  refine TE_nil0 ?_
  refine pn_ret ?_
  exact pn_doneS ((b5, .cells #[.func (.func 41) #[recV n] #[]] 77 (0, 0)) :: (b2, .cells (Value.pointer (some ⟨bs, 0, none⟩)).cells 24 (0, 0)) :: []) rfl rfl ⟨b2, b5, rfl, rfl⟩ (fun a => by simp -failIfUnchanged <;> omega) (by intro e he; simp only [List.mem_cons, List.not_mem_nil, or_false] at he; rcases he with rfl | rfl; exact .inl hb5; exact .inl hb2)

theorem keepL_pre (p : Rec → Bool) (l : List Rec) (i : Nat) : keepL p (l.take i) <+: keepL p l := by
  conv => rhs; rw [← List.take_append_drop i l]
  rw [keepL, keepL, List.filter_append]; exact List.prefix_append _ _
theorem keepL_pre1 {p : Rec → Bool} {l : List Rec} {i : Nat} {x : Rec} (hx : l[i]? = some x) (hp : p x = false) : (keepL p (l.take i) ++ [x]) <+: keepL p l := by
  rw [← keepL_F hx hp]; exact keepL_pre p l (i + 1)

set_option maxHeartbeats 1000000 in
theorem it_staying (bp bf bs : Nat) (n : Rec) (ref : ByteArray) (lv : Value) (HX : Mem) (l : List Rec) (hn : RecOk n) (hb : Rdx 52 recC HX lv l) (hlen : l.length ≤ 1000000) : Iter Tryz.prog 85 [.pointer (some ⟨bp, 0, none⟩), .pointer (some ⟨bf, 0, none⟩)] (fun x => [recV x]) ((bf, .cells #[.func (.func 41) #[recV n] #[]] 77 (0, 0)) :: (bp, .cells #[.pointer (some ⟨bs, 0, none⟩)] 24 (0, 0)) :: (bs, .cells #[.string ref, lv] 56 (0, 0)) :: HX) (keepL (fun y => outdoesB n y) l) (fun _ HI' => HI' = ((bf, .cells #[.func (.func 41) #[recV n] #[]] 77 (0, 0)) :: (bp, .cells #[.pointer (some ⟨bs, 0, none⟩)] 24 (0, 0)) :: (bs, .cells #[.string ref, lv] 56 (0, 0)) :: HX)) := by
  intro σ sl HJ G S w s0 h0 hHp hy
  refine fn_enter (args := [_, _, _]) Tryz.func85 rfl Tryz.ntmps85 rfl hHp ?_
  refine pn_scope ?_
  refine pn_seq ?_
  refine pn_label ?_
  refine pn_seq ?_
  refine pn_plain [4] rfl ?_
  refine TE_l rfl rfl trivial rfl (RD.load (i := 1) Tryz.isAgg24 rfl rfl rfl) rfl ?_
  refine TE_q rfl rfl (RD.nilCheckP rfl) rfl ?_
  refine TE_q rfl rfl (RD.fieldAddr (o := 1) Tryz.runUnderlying56 rfl rfl Tryz.sizeOf22 rfl) rfl ?_
  refine TE_l rfl rfl trivial rfl (RD.load (i := 2) Tryz.isAgg22 rfl rfl rfl) rfl ?_
  refine TE_q rfl rfl (RD.lenX Tryz.runUnderlying22 rfl hb) rfl ?_
  refine TE_q rfl rfl (RD.move rfl) rfl ?_
  refine TE_nil0 ?_
  refine pn_block ?_
  refine pn_loopS (σ := Nat × σ) (fun st => [(11, .int .i64 (st.1 : Int)), (0, .func (.yield sl) #[] #[]), (2, .pointer (some ⟨bf, 0, none⟩)), (9, lv), (10, .int .i64 l.length)]) (fun st => ((bf, .cells #[.func (.func 41) #[recV n] #[]] 77 (0, 0)) :: (bp, .cells #[.pointer (some ⟨bs, 0, none⟩)] 24 (0, 0)) :: (bs, .cells #[.string ref, lv] 56 (0, 0)) :: HX) ++ HJ st.2) (fun st => st.1 ≤ l.length ∧ G (keepL (fun y => outdoesB n y) (l.take st.1)) st.2 ∧ (∀ e ∈ HJ st.2, w.heap.size ≤ e.1 ∨ e.1 ∈ keys (((bf, .cells #[.func (.func 41) #[recV n] #[]] 77 (0, 0)) :: (bp, .cells #[.pointer (some ⟨bs, 0, none⟩)] 24 (0, 0)) :: (bs, .cells #[.string ref, lv] 56 (0, 0)) :: HX) ++ HJ s0))) (fun st => l.length - st.1) (0, s0) ⟨Nat.zero_le _, h0, fun e he => .inr (mem_keys.2 ⟨e, List.mem_append_right _ he, rfl⟩)⟩ ⟨rfl, rfl, rfl, rfl, rfl, trivial⟩ (fun a => by simp -failIfUnchanged <;> omega) ?_
  rintro ⟨i, s⟩ ⟨hi, hG, hX⟩; dsimp only at hi hG hX ⊢
  refine pn_seq ?_
  refine pn_plain [] rfl ?_
  refine TE_q rfl rfl (RD.lss rfl rfl) rfl ?_
  refine TE_nil0 ?_
  refine pn_seq ?_
  first | refine pn_condD rfl (fun hc0 => ?_) (fun hc0 => ?_) | refine pn_condN rfl (fun hc0 => ?_) (fun hc0 => ?_) | refine pn_cond rfl (fun hc0 => ?_) (fun hc0 => ?_)
  · refine pn_skip ?_
    refine pn_seq ?_
    refine pn_block ?_
    refine pn_seq ?_
    have hlt : i < l.length := (by omega); have hq9 : ∃ x, l[i]? = some x := ⟨_, List.getElem?_eq_getElem hlt⟩; obtain ⟨x, hx⟩ := hq9; have hq9 := hb.at hx; obtain ⟨b, off, cap, hv, hcap, hcell⟩ := hq9
    refine pn_plain [] rfl ?_
    refine TE_q rfl rfl (RD.indexX (i := i) Tryz.runUnderlying22 Tryz.sizeOf40 (congrArg some hv) rfl rfl hlt) rfl ?_
    refine TE_l rfl rfl trivial rfl (RD.as (v := recV x) (RD.loadX (vs := recC x) Tryz.isAgg40 Tryz.sizeOf40 rfl rfl (fun w hw j u hu => hcell w (hw.sp (fun a => by simp -failIfUnchanged <;> omega)) j u hu)) (recC_agg _)) rfl ?_
    refine TE_alloc rfl Tryz.zeroValue40 trivial rfl fun b5 hb5 => ?_
    refine TE_putW (i := 0) rfl Tryz.sizeOf40 trivial rfl rfl rfl rfl rfl rfl (.inl (by assumption)) ?_
    refine TE_nil0 ?_
    refine pn_seq ?_
    refine pn_seq ?_
    refine pn_plain [] rfl ?_
    refine TE_l rfl rfl trivial rfl (RD.load (i := 1) Tryz.isAgg77 rfl rfl rfl) rfl ?_
    refine TE_l rfl rfl trivial rfl (RD.loadA (i := 0) Tryz.isAgg40 Tryz.sizeOf40 rfl rfl (Nat.le_of_ble_eq_true rfl) (rec_all _)) rfl ?_
    refine TE_call (fid := 41) rfl rfl trivial Tryz.call41 rfl rfl rfl (fun w hs' => c_outdone n x w hn) ?_
    rintro v17 H2 ⟨rfl, rfl⟩ -
    refine TE_nil0 ?_
    first | refine pn_condD rfl (fun hc1 => ?_) (fun hc1 => ?_) | refine pn_condN rfl (fun hc1 => ?_) (fun hc1 => ?_) | refine pn_cond rfl (fun hc1 => ?_) (fun hc1 => ?_)
    · refine pn_exit ?_
      refine pn_plain [] rfl ?_
      refine TE_q rfl rfl (RD.addI rfl rfl (by omega) (by omega)) rfl ?_
      refine TE_q rfl rfl (RD.move rfl) rfl ?_
      refine TE_nil0 ?_
      (first | exact pn_againS (i + 1, s') ⟨by show i + 1 ≤ l.length; omega, by show G (keepL (fun y => outdoesB n y) (l.take (i + 1))) s'; rw [keepL_F hx (by simpa using hc1)]; exact hG', hX'⟩ (by show l.length - (i + 1) < l.length - i; omega) ⟨rfl, rfl, rfl, rfl, rfl, trivial⟩ (fun a => by simp -failIfUnchanged <;> omega) | exact pn_againS (i + 1, s) ⟨by show i + 1 ≤ l.length; omega, by show G (keepL (fun y => outdoesB n y) (l.take (i + 1))) s; rw [keepL_T hx (by simpa using hc1)]; exact hG, hX⟩ (by show l.length - (i + 1) < l.length - i; omega) ⟨rfl, rfl, rfl, rfl, rfl, trivial⟩ (fun a => by simp -failIfUnchanged <;> omega))
    · refine pn_skip ?_
      refine pn_seq ?_
      refine pn_plain [] rfl ?_
      refine TE_q rfl rfl (RD.move rfl) rfl ?_
      refine TE_l rfl rfl trivial rfl (RD.loadA (i := 0) Tryz.isAgg40 Tryz.sizeOf40 rfl rfl (Nat.le_of_ble_eq_true rfl) (rec_all _)) rfl ?_
      refine TE_yieldT ((b5, .cells (recV x).cells 40 (0, 0)) :: ((bf, .cells #[.func (.func 41) #[recV n] #[]] 77 (0, 0)) :: (bp, .cells #[.pointer (some ⟨bs, 0, none⟩)] 24 (0, 0)) :: (bs, .cells #[.string ref, lv] 56 (0, 0)) :: HX)) (HJ s) rfl rfl rfl trivial rfl rfl rfl hX (fun W hW => hy (keepL (fun y => outdoesB n y) (l.take i)) x s W hG (keepL_pre1 hx (by simpa using hc1)) hW.fr (hW.hp.sp (fun a => by simp -failIfUnchanged <;> omega))) ?_
      rintro v20 H2 ⟨s', rfl, ⟨rfl, hG'⟩ | ⟨rfl, hS'⟩⟩ hX'
      · refine TE_q rfl rfl (RD.not rfl) rfl ?_
        refine TE_nil0 ?_
        refine pn_condF rfl ?_
        refine pn_skip ?_
        refine pn_plain [] rfl ?_
        refine TE_q rfl rfl (RD.addI rfl rfl (by omega) (by omega)) rfl ?_
        refine TE_q rfl rfl (RD.move rfl) rfl ?_
        refine TE_nil0 ?_
        (first | exact pn_againS (i + 1, s') ⟨by show i + 1 ≤ l.length; omega, by show G (keepL (fun y => outdoesB n y) (l.take (i + 1))) s'; rw [keepL_F hx (by simpa using hc1)]; exact hG', hX'⟩ (by show l.length - (i + 1) < l.length - i; omega) ⟨rfl, rfl, rfl, rfl, rfl, trivial⟩ (fun a => by simp -failIfUnchanged <;> omega) | exact pn_againS (i + 1, s) ⟨by show i + 1 ≤ l.length; omega, by show G (keepL (fun y => outdoesB n y) (l.take (i + 1))) s; rw [keepL_T hx (by simpa using hc1)]; exact hG, hX⟩ (by show l.length - (i + 1) < l.length - i; omega) ⟨rfl, rfl, rfl, rfl, rfl, trivial⟩ (fun a => by simp -failIfUnchanged <;> omega))
      · refine TE_q rfl rfl (RD.not rfl) rfl ?_
        refine TE_nil0 ?_
        refine pn_condT rfl ?_
        refine pn_ret ?_
        exact pn_doneS (((bf, .cells #[.func (.func 41) #[recV n] #[]] 77 (0, 0)) :: (bp, .cells #[.pointer (some ⟨bs, 0, none⟩)] 24 (0, 0)) :: (bs, .cells #[.string ref, lv] 56 (0, 0)) :: HX) ++ HJ s') rfl rfl ⟨s', ((bf, .cells #[.func (.func 41) #[recV n] #[]] 77 (0, 0)) :: (bp, .cells #[.pointer (some ⟨bs, 0, none⟩)] 24 (0, 0)) :: (bs, .cells #[.string ref, lv] 56 (0, 0)) :: HX), rfl, .inr ⟨_, keepL_pre1 hx (by simpa using hc1), hS', rfl⟩⟩ (fun a => by simp -failIfUnchanged <;> omega) (fun e he => by rcases List.mem_append.1 he with h | h; exact .inr (mem_keys.2 ⟨e, List.mem_append_left _ h, rfl⟩); exact hX' e h)
  · refine pn_exit ?_
    obtain rfl : i = l.length := (by omega); rw [List.take_length] at hG; exact pn_doneS (((bf, .cells #[.func (.func 41) #[recV n] #[]] 77 (0, 0)) :: (bp, .cells #[.pointer (some ⟨bs, 0, none⟩)] 24 (0, 0)) :: (bs, .cells #[.string ref, lv] 56 (0, 0)) :: HX) ++ HJ s) rfl rfl ⟨s, ((bf, .cells #[.func (.func 41) #[recV n] #[]] 77 (0, 0)) :: (bp, .cells #[.pointer (some ⟨bs, 0, none⟩)] 24 (0, 0)) :: (bs, .cells #[.string ref, lv] 56 (0, 0)) :: HX), rfl, .inl ⟨hG, rfl⟩⟩ (fun a => by simp -failIfUnchanged <;> omega) (fun e he => by rcases List.mem_append.1 he with h | h; exact .inr (mem_keys.2 ⟨e, List.mem_append_left _ h, rfl⟩); exact hX e h)

set_option maxHeartbeats 1000000 in
theorem c_appendSeq (gf : Nat) (lb : List Value) (HI : Mem) (xs : List Rec) (it : Iter Tryz.prog gf lb (fun x => [recV x]) HI xs (fun _ HI' => HI' = HI)) (eg : ∀ args w, (callFunc gf args).run Tryz.prog w = .ok (.enter gf args) w) (hlen : xs.length ≤ 1000000) (w : World) (hH : Hp HI w) : Calls Tryz.prog 84 #[.slice none 0 0, .func (.func gf) #[] lb.toArray] w (Ret w (keys HI) fun v H1 => ∃ st, BldOk 52 recC xs st ∧ v = bldVx xs st ∧ H1 = bldMx 40 recC xs st ++ HI) := by
  refine fn_enter (args := [_, _]) Tryz.func84 rfl Tryz.ntmps84 rfl hH ?_
  refine pn_seq ?_
  refine pn_plain [] rfl ?_
  refine TE_box rfl rfl trivial rfl fun b2 hb2 => ?_
  refine TE_q rfl rfl (RD.assign rfl) rfl ?_
  refine TE_nil0 ?_
  refine pn_seq ?_
  refine pn_seq ?_
  refine pn_plain [] rfl ?_
  refine TE_q rfl rfl (RD.move rfl) rfl ?_
  refine TE_nil0 ?_
  refine pn_block ?_
  refine pn_rangeH (τ := Nat) (HI := HI) (HR := []) it (fun (q : List Rec × SnkS) => ((b2, .cells #[bldVx q.1 q.2] 22 (0, 0)) :: bldMx 40 recC q.1 q.2)) (fun pre q => q.1 = pre ∧ BldOk 52 recC q.1 q.2 ∧ ∀ e ∈ bldMx 40 recC q.1 q.2, w.heap.size ≤ e.1) (fun _ _ _ => False) ([], none) ⟨rfl, BldOk.nil, by simp [bldMx]⟩ rfl eg (by intro x; rfl) rfl (fun w h => (show Hp ((b2, .cells #[bldVx ([] : List Rec) none] 22 (0, 0)) :: HI) w from h).sp (fun a => by simp -failIfUnchanged <;> omega)) (fun e he => by rcases List.mem_append.1 he with h | h; exact .inr (List.mem_map_of_mem h); simp only [bldMx_none, List.mem_cons, List.not_mem_nil, or_false] at h; subst h; exact .inl hb2) (fun _ t => [(5, .pointer (some ⟨t, 0, none⟩)), (2, .pointer (some ⟨b2, 0, none⟩))]) (fun x t => [(t, .cells (recV x).cells 40 (0, 0))]) (fun W t => W.heap.size ≤ t) ?_ ?_ ?_ ?_
  · intro W l1 pre x q R hW hG hpre
    refine pn_plain [] rfl ?_
    refine TE_alloc rfl Tryz.zeroValue40 trivial rfl fun b5 hb5 => ?_
    refine TE_putW (i := 0) rfl Tryz.sizeOf40 trivial rfl rfl rfl rfl rfl rfl (.inl (by assumption)) ?_
    refine TE_nil0 ?_
    (exact fun a w hr hs => ⟨b5, hb5, hr.keeps ⟨rfl, rfl, trivial⟩, hs⟩)
  · rintro W l1 pre x ⟨out, st⟩ t R hW ⟨rfl, hbo, hnw⟩ hpre ht; dsimp only at hpre hbo hnw ⊢; have hWs := hW.size; have hlo := hpre.length_le; simp only [List.length_append, List.length_cons, List.length_nil] at hlo
    refine pn_block ?_
    refine pn_plain [] rfl ?_
    refine TE_l rfl rfl trivial rfl (RD.load (i := 1) Tryz.isAgg22 rfl rfl rfl) rfl ?_
    refine TE_l rfl rfl trivial rfl (RD.loadA (i := 0) Tryz.isAgg40 Tryz.sizeOf40 rfl rfl (Nat.le_of_ble_eq_true rfl) (rec_all _)) rfl ?_
    refine TE_buildSlice (cells := (recV x).cells) rfl Tryz.runUnderlying22 Tryz.sizeOf40 Tryz.zeroValue40 rfl rfl rfl (by kernel_rfl) trivial rfl fun b10 hb10 => ?_
    refine TE_sp (bldMx 40 recC out st ++ ((b10, .cells (recV x).cells 40 (0, 0)) :: ((t, .cells (recV x).cells 40 (0, 0)) :: ((b2, .cells #[bldVx out st] 22 (0, 0)) :: R)))) (fun a => by simp -failIfUnchanged <;> omega) ?_
    refine TE_appendK (st := st) (l := out) (ys := [x]) ((b10, .cells (recV x).cells 40 (0, 0)) :: ((t, .cells (recV x).cells 40 (0, 0)) :: ((b2, .cells #[bldVx out st] 22 (0, 0)) :: R))) recC_len recC_one rfl rfl rfl rfl trivial rfl Tryz.underlying22 elRec rfl rfl rfl hbo (Rdx.blk (H := [(b10, .cells (recV x).cells 40 (0, 0))]) (i := 0) (tl := []) (c := 1) recC_len (by rw [cells1]; rfl) rfl (Nat.le_refl _)) (fun _ hw => hw.sp (fun a => by simp -failIfUnchanged <;> omega)) (by simp; omega) rfl (fun e he => .inr (by simp only [keys, List.map_cons, List.mem_cons]; exact .inr (.inr (List.mem_map_of_mem he)))) (fun k => k ∈ keys (bldMx 40 recC out st) ∨ W.heap.size ≤ k) (fun e he => .inl (List.mem_map_of_mem he)) (fun k h => .inr h) ?_
    intro st1 hbo1 hX1 _; refine TE_sp ((b2, .cells #[bldVx out st] 22 (0, 0)) :: (bldMx 40 recC (out ++ [x]) st1 ++ R)) (fun a => by simp -failIfUnchanged <;> omega) ?_
    refine TE_storeW (i := 0) rfl Tryz.sizeOf22 trivial rfl rfl (bldVx_cells _ _) (bldVx_one _ _) rfl rfl (.inr (by simp [keys])) ?_
    refine TE_nil0 ?_
    (exact pn_endR (σ := List Rec × SnkS) (HJ := (fun (q : List Rec × SnkS) => ((b2, .cells #[bldVx q.1 q.2] 22 (0, 0)) :: bldMx 40 recC q.1 q.2))) (s := (out, st)) (l := l1) (R := R) (out ++ [x], st1) rfl ⟨rfl, hbo1, fun e he => by rcases hX1 e he with h | h; obtain ⟨e', he', h2⟩ := List.mem_map.1 h; rw [← h2]; exact hnw e' he'; exact Nat.le_trans hWs h⟩ (fun w h => h.sp (fun a => by simp -failIfUnchanged <;> omega)) (by intro e he; rcases List.mem_cons.1 he with rfl | he; exact .inl (by simp [keys]); rcases hX1 e he with h | h; exact .inl (by simp only [keys, List.map_cons, List.mem_cons]; exact .inr h); exact .inr h))
  · rintro D HI' ⟨out, st⟩ hD ⟨rfl, hbo, hnw⟩ rfl; dsimp only at hbo hnw ⊢
    refine pn_seq ?_
    refine pn_plain [] rfl ?_
    refine TE_l rfl rfl trivial rfl (RD.load (i := 0) Tryz.isAgg22 rfl rfl rfl) rfl ?_
    refine TE_q rfl rfl (RD.assign rfl) rfl ?_
    refine TE_nil0 ?_
    refine pn_ret ?_
    exact pn_doneC (H1 := bldMx 40 recC out st ++ HI') (((b2, .cells #[bldVx (out, st).1 (out, st).2] 22 (0, 0)) :: bldMx 40 recC (out, st).1 (out, st).2) ++ HI') [] (by simp [List.append_assoc]) rfl rfl ⟨st, hbo, rfl, rfl⟩ (by simp) (fun e he => by rcases List.mem_append.1 he with h | h; exact .inr (hnw e h); exact .inl (List.mem_map_of_mem h)) hD
  · rintro D HI' c pre q hD hpre hS; exact hS.elim

theorem c_collect (gf : Nat) (lb : List Value) (HI : Mem) (xs : List Rec) (it : Iter Tryz.prog gf lb (fun x => [recV x]) HI xs (fun _ HI' => HI' = HI)) (eg : ∀ args w, (callFunc gf args).run Tryz.prog w = .ok (.enter gf args) w) (hlen : xs.length ≤ 1000000) (w : World) (hH : Hp HI w) : Calls Tryz.prog 52 #[.func (.func gf) #[] lb.toArray] w (Ret w (keys HI) fun v H1 => ∃ st, BldOk 52 recC xs st ∧ v = bldVx xs st ∧ H1 = bldMx 40 recC xs st ++ HI) := by
  refine fn_enter (args := [_]) Tryz.func52 rfl Tryz.ntmps52 rfl hH ?_
  refine pn_seq ?_
  refine pn_plain [] rfl ?_
  refine TE_q rfl rfl (RD.assign rfl) rfl ?_
  refine TE_nil0 ?_
  refine pn_seq ?_
  refine pn_plain [] rfl ?_
  refine TE_q rfl rfl (RD.move rfl) rfl ?_
  refine TE_callR [] HI (fun a => by simp -failIfUnchanged <;> omega) rfl rfl trivial Tryz.call84 rfl rfl rfl (fun e he => .inr (List.mem_map_of_mem he)) (fun w hs' => c_appendSeq gf lb HI xs it eg hlen w (hs'.hp.sp (fun a => by simp -failIfUnchanged <;> omega))) ?_
  rintro v4 H1 ⟨st, hbo, rfl, rfl⟩ hX1
  refine TE_q rfl rfl (RD.assign rfl) rfl ?_
  refine TE_nil0 ?_
  refine pn_ret ?_
  exact pn_doneS (bldMx 40 recC xs st ++ HI) rfl rfl ⟨st, hbo, rfl, rfl⟩ (fun a => by simp -failIfUnchanged <;> omega) hX1

end Go.Proofs.YtaakjgmehbbgfaaGreatDoor
