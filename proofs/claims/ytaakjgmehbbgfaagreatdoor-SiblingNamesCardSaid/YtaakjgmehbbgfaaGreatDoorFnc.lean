import Derived.Test.YtaakjgmehbbgfaaGreatDoorRod
import Derived.Test.YtaakjgmehbbgfaaGreatDoorMvG
namespace Go.Proofs.YtaakjgmehbbgfaaGreatDoor
open Go Go.Mv
set_option maxRecDepth 8000
/-- Where a list has the first such one. -/
def IdxF (p : Rec → Bool) (l : List Rec) (n : Int) : Prop := (n = -1 ∧ ∀ x ∈ l, p x = false) ∨ ∃ (i : Nat) (x : Rec), n = i ∧ l[i]? = some x ∧ p x = true ∧ ∀ (j : Nat) (y : Rec), j < i → l[j]? = some y → p y = false
theorem IdxF.any {p : Rec → Bool} {l : List Rec} {n : Int} (h : IdxF p l n) : decide (n ≥ 0) = l.any p := by
  rcases h with ⟨rfl, h⟩ | ⟨i, x, rfl, hx, hp, _⟩
  · rw [List.any_eq_false.2 (fun x hx => by simp [h x hx])]; rfl
  · rw [List.any_eq_true.2 ⟨x, List.mem_of_getElem? hx, hp⟩]; exact decide_eq_true (by omega)

theorem c_indexF (p : Rec → Bool) (gf : Nat) (fs cb : Array Value) (eg : ∀ args w, (callFunc gf args).run Tryz.prog w = .ok (.enter gf args) w) (HC : Mem) (hcall : ∀ x W, RecOk x → Hp HC W → Calls Tryz.prog gf (fs.toList ++ [recV x] ++ cb.toList).toArray W (Ret W [] fun v H1 => v = .bool (p x) ∧ H1 = [])) (v : Value) (l : List Rec) (w : World) (hb : Rdx 52 recC HC v l) (hok : ∀ x ∈ l, RecOk x) (hlen : l.length ≤ 1000000) (hH : Hp HC w) : Calls Tryz.prog 78 #[v, .func (.func gf) fs cb] w (Ret w [] fun r H1 => ∃ n, r = .int .i64 n ∧ IdxF p l n ∧ H1 = []) := by
  refine fn_enter (args := [_, _]) Tryz.func78 rfl Tryz.ntmps78 rfl hH ?_
  refine pn_seq ?_
  refine pn_plain [] rfl ?_
  refine TE_q rfl rfl (RD.assign rfl) rfl ?_
  refine TE_nil0 ?_
  refine pn_seq ?_
  refine pn_seq ?_
  refine pn_plain [1] rfl ?_
  refine TE_q rfl rfl (RD.move rfl) rfl ?_
  refine TE_q rfl rfl (RD.lenX Tryz.runUnderlying22 rfl hb) rfl ?_
  refine TE_q rfl rfl (RD.move rfl) rfl ?_
  refine TE_nil0 ?_
  refine pn_block ?_
  refine pn_loop (σ := Nat) (fun i => [(8, .int .i64 (i : Int)), (7, .int .i64 l.length), (0, v), (1, .func (.func gf) fs cb)]) (fun _ => HC) (fun i => i ≤ l.length ∧ ∀ (j : Nat) (y : Rec), j < i → l[j]? = some y → p y = false) (fun i => l.length - i) 0 ⟨Nat.zero_le _, fun _ _ h => absurd h (by omega)⟩ ⟨rfl, rfl, rfl, rfl, trivial⟩ (List.Sublist.refl _) ?_
  rintro i ⟨hi, hall⟩
  refine pn_seq ?_
  refine pn_plain [] rfl ?_
  refine TE_q rfl rfl (RD.lss rfl rfl) rfl ?_
  refine TE_nil0 ?_
  refine pn_seq ?_
  first | refine pn_condD rfl (fun hc0 => ?_) (fun hc0 => ?_) | refine pn_condN rfl (fun hc0 => ?_) (fun hc0 => ?_) | refine pn_cond rfl (fun hc0 => ?_) (fun hc0 => ?_)
  · refine pn_skip ?_
    refine pn_seq ?_
    refine pn_block ?_
    refine pn_seq ?_
    refine pn_plain [] rfl ?_
    refine TE_q rfl rfl (RD.move rfl) rfl ?_
    refine TE_q rfl rfl (RD.assign rfl) rfl ?_
    refine TE_nil0 ?_
    refine pn_seq ?_
    have hlt : i < l.length := (by omega); have hq9 : ∃ x, l[i]? = some x := ⟨_, List.getElem?_eq_getElem hlt⟩; obtain ⟨x, hx⟩ := hq9; have hq9 := hb.at hx; obtain ⟨b, off, cap, hv, hcap, hcell⟩ := hq9; have hxo := hok x (List.mem_of_getElem? hx)
    refine pn_plain [] rfl ?_
    refine TE_q rfl rfl (RD.move rfl) rfl ?_
    refine TE_q rfl rfl (RD.move rfl) rfl ?_
    refine TE_q rfl rfl (RD.move rfl) rfl ?_
    refine TE_q rfl rfl (RD.indexX (i := i) Tryz.runUnderlying22 Tryz.sizeOf40 (congrArg some hv) rfl rfl hlt) rfl ?_
    refine TE_l rfl rfl trivial rfl (RD.as (v := recV x) (RD.loadX (vs := recC x) Tryz.isAgg40 Tryz.sizeOf40 rfl rfl (fun w hw j u hu => hcell w (hw.sp (fun a => by simp -failIfUnchanged <;> omega)) j u hu)) (recC_agg _)) rfl ?_
    refine TE_call (fid := gf) rfl rfl trivial eg rfl rfl rfl (fun w hs' => hcall x w hxo (hs'.hp.sp (fun a => by simp -failIfUnchanged <;> omega))) ?_
    rintro v16 H5 ⟨rfl, rfl⟩ -
    refine TE_nil0 ?_
    first | refine pn_condD rfl (fun hc1 => ?_) (fun hc1 => ?_) | refine pn_condN rfl (fun hc1 => ?_) (fun hc1 => ?_) | refine pn_cond rfl (fun hc1 => ?_) (fun hc1 => ?_)
    · refine pn_seq ?_
      refine pn_plain [] rfl ?_
      refine TE_q rfl rfl (RD.move rfl) rfl ?_
      refine TE_q rfl rfl (RD.assign rfl) rfl ?_
      refine TE_nil0 ?_
      refine pn_ret ?_
      exact pn_done rfl rfl ⟨_, rfl, .inr ⟨i, x, rfl, hx, by simpa using hc1, hall⟩, rfl⟩ (List.nil_sublist _) (by simp)
    · refine pn_skip ?_
      refine pn_plain [] rfl ?_
      refine TE_q rfl rfl (RD.addI rfl rfl (by omega) (by omega)) rfl ?_
      refine TE_q rfl rfl (RD.move rfl) rfl ?_
      refine TE_nil0 ?_
      (exact pn_again (i + 1) ⟨by omega, fun j y h hy => by rcases Nat.lt_succ_iff_lt_or_eq.1 h with h | rfl; exact hall j y h hy; rw [hx] at hy; cases hy; simpa using hc1⟩ (by show l.length - (i + 1) < l.length - i; omega) ⟨rfl, rfl, rfl, rfl, trivial⟩ (List.Sublist.refl _))
  · refine pn_exit ?_
    refine pn_seq ?_
    refine pn_plain [] rfl ?_
    refine TE_q rfl rfl (RD.assign rfl) rfl ?_
    refine TE_nil0 ?_
    refine pn_ret ?_
    exact pn_done rfl rfl ⟨_, rfl, .inl ⟨rfl, fun x hx => by obtain ⟨j, hj⟩ := List.mem_iff_getElem?.1 hx; exact hall j x (by have := (List.getElem?_eq_some_iff.1 hj).1; omega) hj⟩, rfl⟩ (List.nil_sublist _) (by simp)

theorem c_containsF (p : Rec → Bool) (gf : Nat) (fs cb : Array Value) (eg : ∀ args w, (callFunc gf args).run Tryz.prog w = .ok (.enter gf args) w) (HC : Mem) (hcall : ∀ x W, RecOk x → Hp HC W → Calls Tryz.prog gf (fs.toList ++ [recV x] ++ cb.toList).toArray W (Ret W [] fun v H1 => v = .bool (p x) ∧ H1 = [])) (v : Value) (l : List Rec) (w : World) (hb : Rdx 52 recC HC v l) (hok : ∀ x ∈ l, RecOk x) (hlen : l.length ≤ 1000000) (hH : Hp HC w) : Calls Tryz.prog 40 #[v, .func (.func gf) fs cb] w (Ret w [] fun r H1 => r = .bool (l.any p) ∧ H1 = []) := by
  refine fn_enter (args := [_, _]) Tryz.func40 rfl Tryz.ntmps40 rfl hH ?_
  refine pn_seq ?_
  refine pn_plain [] rfl ?_
  refine TE_q rfl rfl (RD.assign rfl) rfl ?_
  refine TE_nil0 ?_
  refine pn_seq ?_
  refine pn_plain [] rfl ?_
  refine TE_q rfl rfl (RD.move rfl) rfl ?_
  refine TE_q rfl rfl (RD.move rfl) rfl ?_
  refine TE_call rfl rfl trivial Tryz.call78 rfl rfl rfl (fun w hs' => c_indexF p gf fs cb eg HC hcall v l w hb hok hlen (hs'.hp.sp (fun a => by simp -failIfUnchanged <;> omega))) ?_
  rintro v7 H2 ⟨n, rfl, hn, rfl⟩ -
  refine TE_q rfl rfl (RD.geq rfl rfl) rfl ?_
  refine TE_q rfl rfl (RD.assign rfl) rfl ?_
  refine TE_nil0 ?_
  refine pn_ret ?_
  exact pn_done rfl rfl ⟨congrArg Value.bool hn.any, rfl⟩ (List.nil_sublist _) (by simp)

def keepL (p : Rec → Bool) (l : List Rec) : List Rec := l.filter fun x => !p x
theorem keepL_all {p : Rec → Bool} {l : List Rec} (h : ∀ x ∈ l, p x = false) : keepL p l = l := List.filter_eq_self.2 fun x hx => by simp [h x hx]
theorem keepL_le (p : Rec → Bool) (l : List Rec) : (keepL p l).length ≤ l.length := List.length_filter_le _ _
theorem keepL_start {p : Rec → Bool} {l : List Rec} {i : Nat} {x : Rec} (hx : l[i]? = some x) (hp : p x = true) (hall : ∀ (j : Nat) (y : Rec), j < i → l[j]? = some y → p y = false) : l.take i = keepL p (l.take (i + 1)) := by
  rw [take_succ_of hx, keepL, List.filter_append]
  have h1 : (l.take i).filter (fun x => !p x) = l.take i := keepL_all fun y hy => by
    obtain ⟨j, hj, rfl⟩ := List.mem_take_iff_getElem.1 hy
    exact hall j _ (by omega) (List.getElem?_eq_getElem (by omega))
  rw [h1]; simp [hp]
theorem keepL_T {p : Rec → Bool} {l : List Rec} {i : Nat} {x : Rec} (hx : l[i]? = some x) (hp : p x = true) : keepL p (l.take (i + 1)) = keepL p (l.take i) := by
  rw [take_succ_of hx, keepL, List.filter_append]; simp [hp, keepL]
theorem keepL_F {p : Rec → Bool} {l : List Rec} {i : Nat} {x : Rec} (hx : l[i]? = some x) (hp : p x = false) : keepL p (l.take (i + 1)) = keepL p (l.take i) ++ [x] := by
  rw [take_succ_of hx, keepL, List.filter_append]; simp [hp, keepL]
theorem zeroR_one : ∀ v ∈ ((recV ⟨0, 0, fun _ => 0, ⟨#[]⟩, false, fun _ => 0⟩).cells).toList, v.oneCell' = true := List.all_eq_true.1 rfl

set_option maxHeartbeats 1000000 in
theorem c_deleteF (p : Rec → Bool) (gf : Nat) (fs cb : Array Value) (eg : ∀ args w, (callFunc gf args).run Tryz.prog w = .ok (.enter gf args) w) (HC : Mem) (hcall : ∀ x W, RecOk x → Hp HC W → Calls Tryz.prog gf (fs.toList ++ [recV x] ++ cb.toList).toArray W (Ret W [] fun v H1 => v = .bool (p x) ∧ H1 = [])) (l : List Rec) (st : SnkS) (w : World) (hbo : BldOk 52 recC l st) (hok : ∀ x ∈ l, RecOk x) (hlen : l.length ≤ 1000000) (hH : Hp (bldMx 40 recC l st ++ HC) w) : Calls Tryz.prog 59 #[bldVx l st, .func (.func gf) fs cb] w (Ret w (keys (bldMx 40 recC l st)) fun r H1 => ∃ st', BldOk 52 recC (keepL p l) st' ∧ r = bldVx (keepL p l) st' ∧ H1 = bldMx 40 recC (keepL p l) st') := by
  refine fn_enter (args := [_, _]) Tryz.func59 rfl Tryz.ntmps59 rfl hH ?_
  refine pn_seq ?_
  refine pn_plain [] rfl ?_
  refine TE_q rfl rfl (RD.assign rfl) rfl ?_
  refine TE_nil0 ?_
  refine pn_seq ?_
  refine pn_plain [] rfl ?_
  refine TE_q rfl rfl (RD.move rfl) rfl ?_
  refine TE_q rfl rfl (RD.move rfl) rfl ?_
  refine TE_call rfl rfl trivial Tryz.call78 rfl rfl rfl (fun w hs' => c_indexF p gf fs cb eg (bldMx 40 recC l st ++ HC) (fun x W hx hW => hcall x W hx (hW.sp (fun a => by simp -failIfUnchanged <;> omega))) (bldVx l st) l w ((hbo.rdx (u := 40) recC_len).mono (fun _ hw => hw.sp (fun a => by simp -failIfUnchanged <;> omega))) hok hlen (hs'.hp.sp (fun a => by simp -failIfUnchanged <;> omega))) ?_
  rintro v10 H2 ⟨n, rfl, hn, rfl⟩ -
  refine TE_q rfl rfl (RD.assign rfl) rfl ?_
  refine TE_nil0 ?_
  refine pn_seq ?_
  refine pn_seq ?_
  refine pn_plain [] rfl ?_
  refine TE_q rfl rfl (RD.move rfl) rfl ?_
  refine TE_q rfl rfl (RD.eql rfl rfl) rfl ?_
  refine TE_nil0 ?_
  first | refine pn_condD rfl (fun hc0 => ?_) (fun hc0 => ?_) | refine pn_condN rfl (fun hc0 => ?_) (fun hc0 => ?_) | refine pn_cond rfl (fun hc0 => ?_) (fun hc0 => ?_)
  · refine pn_seq ?_
    refine pn_plain [] rfl ?_
    refine TE_q rfl rfl (RD.move rfl) rfl ?_
    refine TE_q rfl rfl (RD.assign rfl) rfl ?_
    refine TE_nil0 ?_
    refine pn_ret ?_
    (have hkl : keepL p l = l := keepL_all (hn.resolve_right (fun ⟨i, x, h, _⟩ => by omega)).2; rw [hkl]; exact pn_done rfl rfl ⟨st, hbo, rfl, rfl⟩ (List.sublist_append_left _ _) (fun e he => .inl (List.mem_map_of_mem he)))
  · refine pn_skip ?_
    refine pn_seq ?_
    refine pn_seq ?_
    have hq9 := hn.resolve_left (fun h => hc0 h.1); obtain ⟨i0, x0, rfl, hx0, hp0, hall0⟩ := hq9; have hil0 := (List.getElem?_eq_some_iff.1 hx0).1; have hq9 := hbo.some_of (fun h => by rw [h] at hil0; simp at hil0); obtain ⟨b0, cap0, tl0, rfl⟩ := hq9; have hR0 : Rdx 52 recC (bldMx 40 recC l (some (b0, cap0, tl0))) (.slice (some ⟨b0, 0, none⟩) l.length cap0) l := hbo.rdx recC_len
    refine pn_plain [] rfl ?_
    refine TE_q rfl rfl (RD.move rfl) rfl ?_
    refine TE_q rfl rfl (RD.addI rfl rfl (by omega) (by omega)) rfl ?_
    refine TE_q rfl rfl (RD.assign rfl) rfl ?_
    refine TE_nil0 ?_
    refine pn_block ?_
    refine pn_loopS (σ := Nat × Nat × List Rec) (fun q => [(6, .int .i64 (q.2.1 : Int)), (5, .int .i64 (q.1 : Int)), (1, .func (.func gf) fs cb), (0, .slice (some ⟨b0, 0, none⟩) l.length cap0)]) (fun q => bldMx 40 recC q.2.2 (some (b0, cap0, tl0)) ++ HC) (fun q => q.1 < q.2.1 ∧ q.2.1 ≤ l.length ∧ q.2.2.length = l.length ∧ BldOk 52 recC q.2.2 (some (b0, cap0, tl0)) ∧ q.2.2.take q.1 = keepL p (l.take q.2.1) ∧ ∀ k, q.2.1 ≤ k → q.2.2[k]? = l[k]?) (fun q => l.length - q.2.1) (i0, i0 + 1, l) ⟨Nat.lt_succ_self _, hil0, rfl, hbo, keepL_start hx0 hp0 hall0, fun _ _ => rfl⟩ ⟨rfl, rfl, rfl, rfl, trivial⟩ (fun a => by simp -failIfUnchanged <;> omega) ?_
    rintro ⟨i, j, zs⟩ ⟨hij, hj, hzl, hbz, hti, hdr⟩; dsimp only at hij hj hzl hti hdr ⊢; have hbz : BldOk 52 recC zs (some (b0, cap0, tl0)) := hbz
    refine pn_seq ?_
    refine pn_seq ?_
    refine pn_plain [2] rfl ?_
    refine TE_q rfl rfl (RD.move rfl) rfl ?_
    refine TE_q rfl rfl (RD.move rfl) rfl ?_
    refine TE_q rfl rfl (RD.lenX Tryz.runUnderlying22 rfl hR0) rfl ?_
    refine TE_q rfl rfl (RD.lss rfl rfl) rfl ?_
    refine TE_nil0 ?_
    first | refine pn_condD rfl (fun hc1 => ?_) (fun hc1 => ?_) | refine pn_condN rfl (fun hc1 => ?_) (fun hc1 => ?_) | refine pn_cond rfl (fun hc1 => ?_) (fun hc1 => ?_)
    · refine pn_skip ?_
      refine pn_seq ?_
      refine pn_block ?_
      refine pn_seq ?_
      have hjl : j < l.length := (by omega); have hq9 : ∃ x, l[j]? = some x := ⟨_, List.getElem?_eq_getElem hjl⟩; obtain ⟨x, hx⟩ := hq9; have hxz := hdr j (Nat.le_refl _); rw [hx] at hxz; have hcell := hbz.cell (u := 40) recC_len hxz; have hxo := hok x (List.mem_of_getElem? hx)
      refine pn_plain [] rfl ?_
      refine TE_q rfl rfl (RD.move rfl) rfl ?_
      refine TE_q rfl rfl (RD.move rfl) rfl ?_
      refine TE_q rfl rfl (RD.indexX (i := j) (len := l.length) (cap := cap0) (b := b0) (off := 0) Tryz.runUnderlying22 Tryz.sizeOf40 rfl rfl rfl hjl) rfl ?_
      refine TE_l rfl rfl trivial rfl (RD.as (v := recV x) (RD.loadX (vs := recC x) Tryz.isAgg40 Tryz.sizeOf40 rfl rfl (fun w hw j u hu => hcell w (hw.sp (fun a => by simp -failIfUnchanged <;> omega)) j u hu)) (recC_agg _)) rfl ?_
      refine TE_alloc rfl Tryz.zeroValue40 trivial rfl fun b7 hb7 => ?_
      refine TE_putW (i := 0) rfl Tryz.sizeOf40 trivial rfl rfl rfl rfl rfl rfl (.inl (by assumption)) ?_
      refine TE_nil0 ?_
      refine pn_seq ?_
      refine pn_plain [] rfl ?_
      refine TE_q rfl rfl (RD.move rfl) rfl ?_
      refine TE_l rfl rfl trivial rfl (RD.loadA (i := 0) Tryz.isAgg40 Tryz.sizeOf40 rfl rfl (Nat.le_of_ble_eq_true rfl) (rec_all _)) rfl ?_
      refine TE_call (fid := gf) rfl rfl trivial eg rfl rfl rfl (fun w hs' => hcall x w hxo (hs'.hp.sp (fun a => by simp -failIfUnchanged <;> omega))) ?_
      rintro v28 H2 ⟨rfl, rfl⟩ -
      refine TE_q rfl rfl (RD.not rfl) rfl ?_
      refine TE_nil0 ?_
      first | refine pn_condD rfl (fun hc2 => ?_) (fun hc2 => ?_) | refine pn_condN rfl (fun hc2 => ?_) (fun hc2 => ?_) | refine pn_cond rfl (fun hc2 => ?_) (fun hc2 => ?_)
      · refine pn_seq ?_
        refine pn_sp ((bldMx 40 recC zs (some (b0, cap0, tl0))) ++ ((b7, .cells (recV x).cells 40 (0, 0)) :: HC)) (fun a => by simp -failIfUnchanged <;> omega) ?_
        refine pn_plain [] rfl ?_
        refine TE_q rfl rfl (RD.move rfl) rfl ?_
        refine TE_q rfl rfl (RD.move rfl) rfl ?_
        refine TE_l rfl rfl trivial rfl (RD.loadA (i := 1) Tryz.isAgg40 Tryz.sizeOf40 rfl rfl (Nat.le_of_ble_eq_true rfl) (rec_all _)) rfl ?_
        refine TE_q rfl rfl (RD.indexX (i := i) (len := l.length) (cap := cap0) (b := b0) (off := 0) Tryz.runUnderlying22 Tryz.sizeOf40 rfl rfl rfl (by omega)) rfl ?_
        refine TE_setE (i := i) (z := x) ((b7, .cells (recV x).cells 40 (0, 0)) :: HC) recC_len recC_one rfl rfl Tryz.sizeOf40 trivial rfl rfl rfl (by omega) (by omega) (.inr (by simp [keys, bldMx])) ?_
        refine TE_nil0 ?_
        refine pn_plain [] rfl ?_
        refine TE_q rfl rfl (RD.move rfl) rfl ?_
        refine TE_q rfl rfl (RD.addI rfl rfl (by omega) (by omega)) rfl ?_
        refine TE_q rfl rfl (RD.assign rfl) rfl ?_
        refine TE_nil0 ?_
        refine pn_plain [] rfl ?_
        refine TE_q rfl rfl (RD.move rfl) rfl ?_
        refine TE_q rfl rfl (RD.addI rfl rfl (by omega) (by omega)) rfl ?_
        refine TE_q rfl rfl (RD.assign rfl) rfl ?_
        refine TE_nil0 ?_
        (first | exact pn_againS (i + 1, j + 1, zs.set i x) ⟨by show i + 1 < j + 1; omega, by show j + 1 ≤ _; omega, by show (zs.set i x).length = _; rw [List.length_set]; exact hzl, hbz.set recC_len i x, by show (zs.set i x).take (i + 1) = _; rw [set_take x (by omega), hti, keepL_F hx (by simpa using hc2)], fun k hk => by show (zs.set i x)[k]? = _; have hk' : j + 1 ≤ k := hk; rw [List.getElem?_set_ne (by omega)]; exact hdr k (by omega)⟩ (by show l.length - (j + 1) < l.length - j; omega) ⟨rfl, rfl, rfl, rfl, trivial⟩ (fun a => by simp -failIfUnchanged <;> omega) | exact pn_againS (i, j + 1, zs) ⟨by show i < j + 1; omega, by show j + 1 ≤ _; omega, hzl, hbz, by show zs.take i = _; rw [hti, keepL_T hx (by simpa using hc2)], fun k hk => hdr k (by have hk' : j + 1 ≤ k := hk; omega)⟩ (by show l.length - (j + 1) < l.length - j; omega) ⟨rfl, rfl, rfl, rfl, trivial⟩ (fun a => by simp -failIfUnchanged <;> omega))
      · refine pn_skip ?_
        refine pn_plain [] rfl ?_
        refine TE_q rfl rfl (RD.move rfl) rfl ?_
        refine TE_q rfl rfl (RD.addI rfl rfl (by omega) (by omega)) rfl ?_
        refine TE_q rfl rfl (RD.assign rfl) rfl ?_
        refine TE_nil0 ?_
        (first | exact pn_againS (i + 1, j + 1, zs.set i x) ⟨by show i + 1 < j + 1; omega, by show j + 1 ≤ _; omega, by show (zs.set i x).length = _; rw [List.length_set]; exact hzl, hbz.set recC_len i x, by show (zs.set i x).take (i + 1) = _; rw [set_take x (by omega), hti, keepL_F hx (by simpa using hc2)], fun k hk => by show (zs.set i x)[k]? = _; have hk' : j + 1 ≤ k := hk; rw [List.getElem?_set_ne (by omega)]; exact hdr k (by omega)⟩ (by show l.length - (j + 1) < l.length - j; omega) ⟨rfl, rfl, rfl, rfl, trivial⟩ (fun a => by simp -failIfUnchanged <;> omega) | exact pn_againS (i, j + 1, zs) ⟨by show i < j + 1; omega, by show j + 1 ≤ _; omega, hzl, hbz, by show zs.take i = _; rw [hti, keepL_T hx (by simpa using hc2)], fun k hk => hdr k (by have hk' : j + 1 ≤ k := hk; omega)⟩ (by show l.length - (j + 1) < l.length - j; omega) ⟨rfl, rfl, rfl, rfl, trivial⟩ (fun a => by simp -failIfUnchanged <;> omega))
    · refine pn_exit ?_
      refine pn_seq ?_
      refine pn_plain [] rfl ?_
      refine TE_q rfl rfl (RD.move rfl) rfl ?_
      refine TE_q rfl rfl (RD.move rfl) rfl ?_
      refine TE_q rfl rfl (RD.sliceX (l := i) (h := l.length) Tryz.runUnderlying22 Tryz.sizeOf40 rfl hR0 ⟨_, rfl⟩ rfl (by omega) (Nat.le_refl _)) rfl ?_
      refine TE_clearX (n := i) (l := zs) HC recC_len rfl rfl rfl trivial Tryz.underlying22 Tryz.zeroValue40 rfl zeroR_one (by show some (subVx 52 i l.length (.slice (some ⟨b0, 0, none⟩) l.length cap0)) = _; rw [← hzl]; rfl) (by omega) hbz (.inr (by simp [keys, bldMx])) ?_
      intro tl' hbt
      refine TE_nil0 ?_
      refine pn_seq ?_
      have hki : (keepL p l).length = i := (by rw [show keepL p l = zs.take i from by rw [hti, List.take_of_length_le (by omega)], List.length_take]; omega)
      refine pn_plain [] rfl ?_
      refine TE_q rfl rfl (RD.move rfl) rfl ?_
      refine TE_q rfl rfl (RD.move rfl) rfl ?_
      refine TE_q rfl rfl (RD.sliceX (l := 0) (h := i) Tryz.runUnderlying22 Tryz.sizeOf40 rfl hR0 rfl ⟨_, rfl⟩ (Nat.zero_le _) (by omega)) rfl ?_
      refine TE_q rfl rfl (RD.assign rfl) rfl ?_
      refine TE_nil0 ?_
      refine pn_ret ?_
      (have hkz : keepL p l = zs.take i := (by rw [hti, List.take_of_length_le (by omega)]); rw [← hkz] at hbt ⊢; exact pn_done rfl rfl ⟨some (b0, cap0, tl'), hbt, subVx_pre (n := l.length) hki, rfl⟩ (List.sublist_append_left _ _) (fun e he => .inl (by simp only [bldMx, List.mem_cons, List.not_mem_nil, or_false] at he; subst he; simp [keys, bldMx])))

end Go.Proofs.YtaakjgmehbbgfaaGreatDoor
