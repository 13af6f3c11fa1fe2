import Derived.Test.YtaakjgmehbbgfaaGreatDoorFnc
import Derived.Test.YtaakjgmehbbgfaaGreatDoorSet
namespace Go.Proofs.YtaakjgmehbbgfaaGreatDoor
open Go Go.Mv
set_option maxRecDepth 8000
def alL (l : List Rec) : List Rec := keepL (fun r => !r.has) l
def tipsL (l : List Rec) : List (Nat → Int) := l.map fun r => canI r.tip
theorem tipsL_can {l : List Rec} : ∀ x ∈ tipsL l, IdCan x := fun x hx => by obtain ⟨r, _, rfl⟩ := List.mem_map.1 hx; exact canI_can _
theorem tipsL_ok {l : List Rec} (h : ∀ r ∈ l, RecOk r) : ∀ x ∈ tipsL l, IdOk x := fun x hx => by obtain ⟨r, hr, rfl⟩ := List.mem_map.1 hx; exact canI_ok (h r hr).tip
theorem tipsL_len (l : List Rec) : (tipsL l).length = l.length := List.length_map _
theorem tipsL_succ {l : List Rec} {i : Nat} {x : Rec} (hx : l[i]? = some x) : tipsL (l.take (i + 1)) = tipsL (l.take i) ++ [canI x.tip] := by
  rw [take_succ_of hx, tipsL, List.map_append]; rfl
theorem alL_sub {l : List Rec} {r : Rec} (h : r ∈ alL l) : r ∈ l := (List.mem_filter.1 h).1
theorem alL_le (l : List Rec) : (alL l).length ≤ l.length := keepL_le _ l
theorem cellsT (x : Rec) : (idV x.tip).cells = (cat idC [canI x.tip] ++ []).toArray := cellsI (canI x.tip)

theorem c_sibNone (bs : Nat) (ref : ByteArray) (lv : Value) (w : World) (hne : ref ≠ ⟨#[]⟩) (hH : Hp [(bs, .cells #[.string ref, lv] 56 (0, 0))] w) : Calls Tryz.prog 50 #[.pointer (some ⟨bs, 0, none⟩)] w (Ret w [] fun r H1 => r = .bool false ∧ H1 = []) := by
  refine fn_enter (args := [_]) Tryz.func50 rfl Tryz.ntmps50 rfl hH ?_
  refine pn_seq ?_
  refine pn_plain [] rfl ?_
  refine TE_q rfl rfl (RD.assign rfl) rfl ?_
  refine TE_nil0 ?_
  refine pn_seq ?_
  refine pn_plain [] rfl ?_
  refine TE_q rfl rfl (RD.move rfl) rfl ?_
  refine TE_q rfl rfl (RD.ptr_eql_nil Tryz.runUnderlying24 rfl rfl) rfl ?_
  refine TE_q rfl rfl (RD.move rfl) rfl ?_
  (first | refine TE_isT ?_ | refine TE_isF ?_ | refine TE_dec (fun h102 => ?_) (fun h102 => ?_) | refine TE_ndec (fun h102 => ?_) (fun h102 => ?_) | refine TE_bool (fun h102 => ?_) (fun h102 => ?_))
  all_goals (first | (refine TE_s rfl rfl rfl rfl rfl ?_) | (refine TE_gq rfl rfl rfl rfl (RD.move rfl) rfl ?_))
  all_goals (first | (refine TE_s rfl rfl rfl rfl rfl ?_) | (refine TE_gq rfl rfl rfl rfl (RD.nilCheckP rfl) rfl ?_))
  all_goals (first | (refine TE_s rfl rfl rfl rfl rfl ?_) | (refine TE_gq rfl rfl rfl rfl (RD.fieldAddr (o := 0) Tryz.runUnderlying56 rfl rfl Tryz.sizeOf9 rfl) rfl ?_))
  all_goals (first | (refine TE_s rfl rfl rfl rfl rfl ?_) | (refine TE_l rfl rfl ⟨_, rfl, rfl⟩ rfl (RD.load (i := 0) Tryz.isAgg9 rfl rfl rfl) rfl ?_))
  all_goals (first | (refine TE_s rfl rfl rfl rfl rfl ?_) | (refine TE_gq rfl rfl rfl rfl (RD.eql_string rfl rfl) rfl ?_))
  all_goals (first | (refine TE_q rfl rfl (RD.pickT rfl rfl) rfl ?_) | (refine TE_q rfl rfl (RD.pickF rfl rfl) rfl ?_))
  all_goals refine TE_q rfl rfl (RD.assign rfl) rfl ?_
  all_goals refine TE_nil0 ?_
  all_goals refine pn_ret ?_
  all_goals (exact pn_done rfl rfl ⟨congrArg Value.bool (decide_eq_false hne), rfl⟩ (List.nil_sublist _) (by simp))

theorem c_sibRef (bs : Nat) (ref : ByteArray) (lv : Value) (w : World) (hne : ref ≠ ⟨#[]⟩) (hH : Hp [(bs, .cells #[.string ref, lv] 56 (0, 0))] w) : Calls Tryz.prog 24 #[.pointer (some ⟨bs, 0, none⟩)] w (Ret w [] fun r H1 => r = .string ref ∧ H1 = []) := by
  refine fn_enter (args := [_]) Tryz.func24 rfl Tryz.ntmps24 rfl hH ?_
  refine pn_seq ?_
  refine pn_plain [] rfl ?_
  refine TE_q rfl rfl (RD.assign rfl) rfl ?_
  refine TE_nil0 ?_
  refine pn_seq ?_
  refine pn_seq ?_
  refine pn_plain [] rfl ?_
  refine TE_q rfl rfl (RD.move rfl) rfl ?_
  refine TE_call rfl rfl trivial Tryz.call50 rfl rfl rfl (fun w hs' => c_sibNone bs ref lv w hne (hs'.hp.sp (fun a => by simp -failIfUnchanged <;> omega))) ?_
  rintro v4 H1 ⟨rfl, rfl⟩ -
  refine TE_nil0 ?_
  refine pn_condF rfl ?_
  refine pn_skip ?_
  refine pn_seq ?_
  refine pn_plain [] rfl ?_
  refine TE_q rfl rfl (RD.move rfl) rfl ?_
  refine TE_q rfl rfl (RD.nilCheckP rfl) rfl ?_
  refine TE_q rfl rfl (RD.fieldAddr (o := 0) Tryz.runUnderlying56 rfl rfl Tryz.sizeOf9 rfl) rfl ?_
  refine TE_l rfl rfl trivial rfl (RD.load (i := 0) Tryz.isAgg9 rfl rfl rfl) rfl ?_
  refine TE_q rfl rfl (RD.assign rfl) rfl ?_
  refine TE_nil0 ?_
  refine pn_ret ?_
  exact pn_done rfl rfl ⟨rfl, rfl⟩ (List.nil_sublist _) (by simp)

theorem c_sibAll (bs : Nat) (ref : ByteArray) (lv : Value) (HX : Mem) (l : List Rec) (w : World) (hne : ref ≠ ⟨#[]⟩) (hb : Rdx 52 recC HX lv l) (hok : ∀ r ∈ l, RecOk r) (hlen : l.length ≤ 1000000) (hH : Hp ((bs, .cells #[.string ref, lv] 56 (0, 0)) :: HX) w) : Calls Tryz.prog 17 #[.pointer (some ⟨bs, 0, none⟩)] w (Ret w [] fun r H1 => ∃ st, BldOk 52 recC l st ∧ r = bldVx l st ∧ H1 = bldMx 40 recC l st) := by
  refine fn_enter (args := [_]) Tryz.func17 rfl Tryz.ntmps17 rfl hH ?_
  refine pn_seq ?_
  refine pn_plain [] rfl ?_
  refine TE_q rfl rfl (RD.assign rfl) rfl ?_
  refine TE_nil0 ?_
  refine pn_seq ?_
  refine pn_seq ?_
  refine pn_plain [] rfl ?_
  refine TE_q rfl rfl (RD.move rfl) rfl ?_
  refine TE_call rfl rfl trivial Tryz.call50 rfl rfl rfl (fun w hs' => c_sibNone bs ref lv w hne (hs'.hp.sp (fun a => by simp -failIfUnchanged <;> omega))) ?_
  rintro v4 H1 ⟨rfl, rfl⟩ -
  refine TE_nil0 ?_
  refine pn_condF rfl ?_
  refine pn_skip ?_
  refine pn_seq ?_
  refine pn_plain [] rfl ?_
  refine TE_q rfl rfl (RD.move rfl) rfl ?_
  refine TE_q rfl rfl (RD.nilCheckP rfl) rfl ?_
  refine TE_q rfl rfl (RD.fieldAddr (o := 1) Tryz.runUnderlying56 rfl rfl Tryz.sizeOf22 rfl) rfl ?_
  refine TE_l rfl rfl trivial rfl (RD.load (i := 0) Tryz.isAgg22 rfl rfl rfl) rfl ?_
  refine TE_call rfl rfl trivial Tryz.call42 rfl rfl rfl (fun w hs' => c_cloneR HX lv l w (hs'.hp.sp (fun a => by simp -failIfUnchanged <;> omega)) hb hlen) ?_
  rintro v9 H4 ⟨st, hbo, rfl, rfl⟩ hX1
  refine TE_q rfl rfl (RD.assign rfl) rfl ?_
  refine TE_nil0 ?_
  refine pn_ret ?_
  exact pn_doneS (bldMx 40 recC l st) rfl rfl ⟨st, hbo, rfl, rfl⟩ (fun a => by simp -failIfUnchanged <;> omega) (fun e he => .inl (hX1 e he))

theorem c_alive1 (x : Rec) (w : World) : Calls Tryz.prog 60 #[recV x] w (Ret w [] fun v H1 => v = .bool (!x.has) ∧ H1 = []) := by
  refine fn_enter (args := [_]) Tryz.func60 rfl Tryz.ntmps60 rfl (Hp.nil w) ?_
  refine pn_seq ?_
  refine pn_plain [] rfl ?_
  refine TE_box rfl rfl trivial rfl fun b1 hb1 => ?_
  refine TE_q rfl rfl (RD.assign rfl) rfl ?_
  refine TE_nil0 ?_
  refine pn_seq ?_
  refine pn_plain [] rfl ?_
  refine TE_q rfl rfl (RD.fieldAddr (o := 19) Tryz.runUnderlying40 rfl rfl Tryz.sizeOf4 rfl) rfl ?_
  refine TE_l rfl rfl trivial rfl (RD.load (i := 0) Tryz.isAgg4 rfl rfl rfl) rfl ?_
  refine TE_q rfl rfl (RD.not rfl) rfl ?_
  refine TE_q rfl rfl (RD.assign rfl) rfl ?_
  refine TE_nil0 ?_
  refine pn_ret ?_
  exact pn_done rfl rfl ⟨rfl, rfl⟩ (List.nil_sublist _) (by simp)

theorem c_sibAlive (bs : Nat) (ref : ByteArray) (lv : Value) (HX : Mem) (l : List Rec) (w : World) (hne : ref ≠ ⟨#[]⟩) (hb : Rdx 52 recC HX lv l) (hok : ∀ r ∈ l, RecOk r) (hlen : l.length ≤ 1000000) (hH : Hp ((bs, .cells #[.string ref, lv] 56 (0, 0)) :: HX) w) : Calls Tryz.prog 23 #[.pointer (some ⟨bs, 0, none⟩)] w (Ret w [] fun r H1 => ∃ st, BldOk 52 recC (alL l) st ∧ r = bldVx (alL l) st ∧ H1 = bldMx 40 recC (alL l) st) := by
  refine fn_enter (args := [_]) Tryz.func23 rfl Tryz.ntmps23 rfl hH ?_
  refine pn_seq ?_
  refine pn_plain [] rfl ?_
  refine TE_q rfl rfl (RD.assign rfl) rfl ?_
  refine TE_nil0 ?_
  refine pn_seq ?_
  refine pn_plain [] rfl ?_
  refine TE_q rfl rfl (RD.move rfl) rfl ?_
  refine TE_call rfl rfl trivial Tryz.call17 rfl rfl rfl (fun w hs' => c_sibAll bs ref lv HX l w hne hb hok hlen (hs'.hp.sp (fun a => by simp -failIfUnchanged <;> omega))) ?_
  rintro v4 H1 ⟨st, hbo, rfl, rfl⟩ hX1
  refine TE_callR ((bs, .cells #[.string ref, lv] 56 (0, 0)) :: HX) (bldMx 40 recC l st) (fun a => by simp -failIfUnchanged <;> omega) rfl rfl trivial Tryz.call59 rfl rfl rfl (fun e he => .inl (hX1 e he)) (fun w hs' => c_deleteF (fun r => !r.has) 60 #[] #[] Tryz.call60 [] (fun x W _ _ => c_alive1 x W) l st w hbo hok hlen (hs'.hp.sp (fun a => by simp -failIfUnchanged <;> omega))) ?_
  rintro v5 H2 ⟨st', hbo', rfl, rfl⟩ hX2
  refine TE_q rfl rfl (RD.assign rfl) rfl ?_
  refine TE_nil0 ?_
  refine pn_ret ?_
  exact pn_doneS (bldMx 40 recC (keepL (fun r => !r.has) l) st') rfl rfl ⟨st', hbo', rfl, rfl⟩ (fun a => by simp -failIfUnchanged <;> omega) hX2

set_option maxHeartbeats 1000000 in
theorem c_sibTips (bs : Nat) (ref : ByteArray) (lv : Value) (HX : Mem) (l : List Rec) (w : World) (hne : ref ≠ ⟨#[]⟩) (hb : Rdx 52 recC HX lv l) (hok : ∀ r ∈ l, RecOk r) (hlen : l.length ≤ 1000000) (hH : Hp ((bs, .cells #[.string ref, lv] 56 (0, 0)) :: HX) w) : Calls Tryz.prog 19 #[.pointer (some ⟨bs, 0, none⟩)] w (Ret w [] fun r H1 => ∃ xs st, SetOf (tipsL (alL l)) xs ∧ BldOk 32 idC xs st ∧ r = bldVx xs st ∧ H1 = bldMx 38 idC xs st) := by
  refine fn_enter (args := [_]) Tryz.func19 rfl Tryz.ntmps19 rfl hH ?_
  refine pn_seq ?_
  refine pn_plain [] rfl ?_
  refine TE_q rfl rfl (RD.assign rfl) rfl ?_
  refine TE_nil0 ?_
  refine pn_seq ?_
  refine pn_plain [] rfl ?_
  refine TE_q rfl rfl (RD.assign rfl) rfl ?_
  refine TE_nil0 ?_
  refine pn_seq ?_
  refine pn_seq ?_
  refine pn_plain [2] rfl ?_
  refine TE_q rfl rfl (RD.move rfl) rfl ?_
  refine TE_call rfl rfl trivial Tryz.call23 rfl rfl rfl (fun w hs' => c_sibAlive bs ref lv HX l w hne hb hok hlen (hs'.hp.sp (fun a => by simp -failIfUnchanged <;> omega))) ?_
  rintro v7 H1 ⟨stA, hbA, rfl, rfl⟩ hXA; have hal := alL_le l; have hRA : Rdx 52 recC (bldMx 40 recC (alL l) stA) (bldVx (alL l) stA) (alL l) := hbA.rdx recC_len
  refine TE_q rfl rfl (RD.lenX Tryz.runUnderlying22 rfl hRA) rfl ?_
  refine TE_q rfl rfl (RD.move rfl) rfl ?_
  refine TE_nil0 ?_
  refine pn_block ?_
  refine pn_loopS (σ := Nat × SnkS) (fun q => [(9, .int .i64 (q.1 : Int)), (8, .int .i64 (alL l).length), (7, bldVx (alL l) stA), (3, bldVx (tipsL ((alL l).take q.1)) q.2)]) (fun q => bldMx 38 idC (tipsL ((alL l).take q.1)) q.2 ++ (bldMx 40 recC (alL l) stA ++ ((bs, .cells #[.string ref, lv] 56 (0, 0)) :: HX))) (fun q => q.1 ≤ (alL l).length ∧ BldOk 32 idC (tipsL ((alL l).take q.1)) q.2 ∧ (∀ e ∈ bldMx 38 idC (tipsL ((alL l).take q.1)) q.2, w.heap.size ≤ e.1 ∨ e.1 ∈ ([] : List Nat))) (fun q => (alL l).length - q.1) (0, none) ⟨Nat.zero_le _, BldOk.nil, by simp [bldMx]⟩ ⟨rfl, rfl, rfl, rfl, trivial⟩ (fun a => by simp -failIfUnchanged <;> omega) ?_
  rintro ⟨i, st⟩ ⟨hi, hbo, hX⟩; dsimp only at hi hbo hX ⊢
  refine pn_seq ?_
  refine pn_plain [] rfl ?_
  refine TE_q rfl rfl (RD.lss rfl rfl) rfl ?_
  refine TE_nil0 ?_
  refine pn_seq ?_
  first | refine pn_condD rfl (fun hc0 => ?_) (fun hc0 => ?_) | refine pn_condN rfl (fun hc0 => ?_) (fun hc0 => ?_) | refine pn_cond rfl (fun hc0 => ?_) (fun hc0 => ?_)
  · refine pn_skip ?_
    refine pn_seq ?_
    refine pn_block ?_
    refine pn_seq ?_
    have hlt : i < (alL l).length := (by omega); have hq9 : ∃ x, (alL l)[i]? = some x := ⟨_, List.getElem?_eq_getElem hlt⟩; obtain ⟨x, hx⟩ := hq9; have hq9 := hRA.at hx; obtain ⟨b, off, cap, hv, hcap, hcell⟩ := hq9
    refine pn_plain [] rfl ?_
    refine TE_q rfl rfl (RD.indexX (i := i) Tryz.runUnderlying22 Tryz.sizeOf40 (congrArg some hv) rfl rfl hlt) rfl ?_
    refine TE_l rfl rfl trivial rfl (RD.as (v := recV x) (RD.loadX (vs := recC x) Tryz.isAgg40 Tryz.sizeOf40 rfl rfl (fun w hw j u hu => hcell w (hw.sp (fun a => by simp -failIfUnchanged <;> omega)) j u hu)) (recC_agg _)) rfl ?_
    refine TE_alloc rfl Tryz.zeroValue40 trivial rfl fun b5 hb5 => ?_
    refine TE_putW (i := 0) rfl Tryz.sizeOf40 trivial rfl rfl rfl rfl rfl rfl (.inl (by assumption)) ?_
    refine TE_nil0 ?_
    refine pn_plain [] rfl ?_
    refine TE_q rfl rfl (RD.move rfl) rfl ?_
    refine TE_q rfl rfl (RD.fieldAddr (o := 20) Tryz.runUnderlying40 rfl rfl Tryz.sizeOf38 rfl) rfl ?_
    refine TE_l rfl rfl trivial rfl (RD.loadA (i := 0) Tryz.isAgg38 Tryz.sizeOf38 rfl rfl (Nat.le_of_ble_eq_true rfl) (rec_tip' _)) rfl ?_
    refine TE_buildSlice (cells := (idV x.tip).cells) rfl Tryz.runUnderlying48 Tryz.sizeOf38 Tryz.zeroValue38 rfl rfl rfl (by kernel_rfl) trivial rfl fun b16 hb16 => ?_
    have hll : (tipsL ((alL l).take i)).length ≤ 1000000 := (by rw [tipsL_len, List.length_take]; omega); refine TE_sp (bldMx 38 idC (tipsL ((alL l).take i)) st ++ ((b16, .cells (idV x.tip).cells 38 (0, 0)) :: ((b5, .cells (recV x).cells 40 (0, 0)) :: (bldMx 40 recC (alL l) stA ++ ((bs, .cells #[.string ref, lv] 56 (0, 0)) :: HX))))) (fun a => by simp -failIfUnchanged <;> omega) ?_
    refine TE_appendX (st := st) (l := (tipsL ((alL l).take i))) (ys := [canI x.tip]) ((b16, .cells (idV x.tip).cells 38 (0, 0)) :: ((b5, .cells (recV x).cells 40 (0, 0)) :: (bldMx 40 recC (alL l) stA ++ ((bs, .cells #[.string ref, lv] 56 (0, 0)) :: HX)))) idC_len idC_one rfl rfl rfl rfl trivial rfl Tryz.underlying48 elId rfl rfl rfl hbo (Rdx.blk (H := [(b16, .cells (idV x.tip).cells 38 (0, 0))]) (i := 0) (tl := []) (c := 1) idC_len (by rw [cellsT]; rfl) rfl (Nat.le_refl _)) (fun _ hw => hw.sp (fun a => by simp -failIfUnchanged <;> omega)) (by simp; omega) rfl hX ?_
    intro st1 hbo1 hX1 _; rw [← tipsL_succ hx] at hbo1 hX1 ⊢
    refine TE_q rfl rfl (RD.assign rfl) rfl ?_
    refine TE_nil0 ?_
    refine pn_plain [] rfl ?_
    refine TE_q rfl rfl (RD.addI rfl rfl (by omega) (by omega)) rfl ?_
    refine TE_q rfl rfl (RD.move rfl) rfl ?_
    refine TE_nil0 ?_
    (exact pn_againS (i + 1, st1) ⟨by show i + 1 ≤ _; omega, hbo1, hX1⟩ (by show (alL l).length - (i + 1) < (alL l).length - i; omega) ⟨rfl, rfl, rfl, rfl, trivial⟩ (fun a => by simp -failIfUnchanged <;> omega))
  · refine pn_exit ?_
    refine pn_seq ?_
    obtain rfl : i = (alL l).length := (by omega); rw [List.take_length] at hbo hX ⊢
    refine pn_plain [] rfl ?_
    refine TE_q rfl rfl (RD.move rfl) rfl ?_
    refine TE_call rfl rfl trivial Tryz.call57 rfl rfl rfl (fun w hs' => c_hashSet (bldMx 38 idC (tipsL (alL l)) st) _ (tipsL (alL l)) w (hbo.rdx (u := 38) idC_len) tipsL_can (tipsL_ok fun r hr => hok r (alL_sub hr)) (by rw [tipsL_len]; omega) (hs'.hp.sp (fun a => by simp -failIfUnchanged <;> omega))) ?_
    rintro v20 H1 ⟨xs, stS, hset, hboS, rfl, rfl⟩ hXS
    refine TE_q rfl rfl (RD.assign rfl) rfl ?_
    refine TE_nil0 ?_
    refine pn_ret ?_
    exact pn_doneS (bldMx 38 idC xs stS) rfl rfl ⟨xs, stS, hset, hboS, rfl, rfl⟩ (fun a => by simp -failIfUnchanged <;> omega) (fun e he => .inl (hXS e he))

end Go.Proofs.YtaakjgmehbbgfaaGreatDoor
