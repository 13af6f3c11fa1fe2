import Derived.Test.YthagkkmbbncclaaDoorStd
namespace Go.Proofs.YthagkkmbbncclaaDoor
open Go Go.Mv
set_option maxRecDepth 8000
def sameLB : List Rec → List Rec → Bool
  | [], [] => true
  | x :: xs, y :: ys => sameRB x y && sameLB xs ys
  | _, _ => false
theorem sameLB_self : ∀ l : List Rec, sameLB l l = true
  | [] => rfl
  | x :: l => by simp [sameLB, sameRB_self, sameLB_self l]
theorem sameLB_len : ∀ {xs ys : List Rec}, xs.length ≠ ys.length → sameLB xs ys = false
  | [], [], h => absurd rfl h
  | x :: xs, y :: ys, h => by
    have := sameLB_len (xs := xs) (ys := ys) (by simpa using h)
    simp [sameLB, this]
  | [], y :: ys, _ => rfl
  | x :: xs, [], _ => rfl
theorem sameLB_F : ∀ {xs ys : List Rec} {i : Nat} {x y : Rec}, xs[i]? = some x → ys[i]? = some y → sameRB x y = false → sameLB xs ys = false
  | [], _, i, x, y, h, _, _ => by simp at h
  | _ :: _, [], i, x, y, _, h, _ => by simp at h
  | a :: xs, b :: ys, 0, x, y, h1, h2, h => by
    simp only [List.getElem?_cons_zero, Option.some.injEq] at h1 h2
    subst h1; subst h2; simp [sameLB, h]
  | a :: xs, b :: ys, i + 1, x, y, h1, h2, h => by
    rw [List.getElem?_cons_succ] at h1 h2
    simp [sameLB, sameLB_F h1 h2 h]
theorem sameLB_T : ∀ {xs ys : List Rec}, xs.length = ys.length → (∀ (i : Nat) (x y : Rec), xs[i]? = some x → ys[i]? = some y → sameRB x y = true) → sameLB xs ys = true
  | [], [], _, _ => rfl
  | [], _ :: _, h, _ => by simp at h
  | _ :: _, [], h, _ => by simp at h
  | a :: xs, b :: ys, h, hs => by
    have h1 := hs 0 a b rfl rfl
    have h2 := sameLB_T (xs := xs) (ys := ys) (by simpa using h) (fun i x y hx hy => hs (i + 1) x y (by simpa using hx) (by simpa using hy))
    simp [sameLB, h1, h2]
theorem eq_dotK {a b : Rec} : (decide (a.s = b.s) && decide (a.c = b.c)) = decide (dotK a = dotK b) := by
  rw [← Bool.decide_and]; exact decide_eq_decide.2 (by simp [dotK])
def dotC (r : Rec) : List Value := [.int .i64 r.s, .int .i64 r.c]
theorem dotC_agg (r : Rec) : Value.agg (dotC r).toArray = dotV r.s r.c := rfl
theorem dotC_in {r : Rec} {j : Nat} {u : Value} (h : (dotC r)[j]? = some u) : (recC r)[j]? = some u := by
  rcases j with _ | _ | j
  · exact h
  · exact h
  · simp [dotC] at h
theorem cells1 (x : Rec) : (recV x).cells = (cat recC [x] ++ []).toArray := by simp [cat, recC]

theorem c_r12Same (HX : Mem) (v1 v2 : Value) (xs ys : List Rec) (w : World) (h1 : Rdx 52 recC HX v1 xs) (h2 : Rdx 52 recC HX v2 ys) (hlen1 : xs.length ≤ 1000000) (hH : Hp HX w) : Calls Tryd.prog 23 #[v1, v2] w (Ret w [] fun v H1 => v = .bool (sameLB xs ys) ∧ H1 = []) := by
  refine fn_enter (args := [_, _]) Tryd.func23 rfl Tryd.ntmps23 rfl hH ?_
  refine pn_seq ?_
  refine pn_plain [] rfl ?_
  refine TE_q rfl rfl (RD.assign rfl) rfl ?_
  refine TE_nil0 ?_
  refine pn_seq ?_
  refine pn_seq ?_
  refine pn_plain [1, 3] rfl ?_
  refine TE_q rfl rfl (RD.move rfl) rfl ?_
  refine TE_q rfl rfl (RD.lenX Tryd.runUnderlying53 rfl h1) rfl ?_
  refine TE_q rfl rfl (RD.move rfl) rfl ?_
  refine TE_q rfl rfl (RD.lenX Tryd.runUnderlying53 rfl h2) rfl ?_
  refine TE_q rfl rfl (RD.neq rfl rfl) rfl ?_
  refine TE_nil0 ?_
  first | refine pn_condD rfl (fun hc0 => ?_) (fun hc0 => ?_) | refine pn_condN rfl (fun hc0 => ?_) (fun hc0 => ?_) | refine pn_cond rfl (fun hc0 => ?_) (fun hc0 => ?_)
  · refine pn_seq ?_
    refine pn_plain [] rfl ?_
    refine TE_q rfl rfl (RD.assign rfl) rfl ?_
    refine TE_nil0 ?_
    refine pn_ret ?_
    exact pn_done rfl rfl ⟨by rw [sameLB_len (by omega)]; rfl, rfl⟩ (List.nil_sublist _) (by simp)
  · refine pn_skip ?_
    refine pn_seq ?_
    refine pn_seq ?_
    refine pn_plain [] rfl ?_
    refine TE_q rfl rfl (RD.assign rfl) rfl ?_
    refine TE_nil0 ?_
    refine pn_block ?_
    refine pn_loop (σ := Nat) (fun i => [(5, .int .i64 (i : Int)), (0, v1), (1, v2)]) (fun _ => HX) (fun i => i ≤ xs.length ∧ ∀ (j : Nat) (x y : Rec), xs[j]? = some x → ys[j]? = some y → j < i → sameRB x y = true) (fun i => xs.length - i) 0 ⟨Nat.zero_le _, fun _ _ _ _ _ h => absurd h (by omega)⟩ ⟨rfl, rfl, rfl, trivial⟩ (List.Sublist.refl _) ?_
    rintro i ⟨hi, hsm⟩
    refine pn_seq ?_
    refine pn_seq ?_
    refine pn_plain [2] rfl ?_
    refine TE_q rfl rfl (RD.move rfl) rfl ?_
    refine TE_q rfl rfl (RD.move rfl) rfl ?_
    refine TE_q rfl rfl (RD.lenX Tryd.runUnderlying53 rfl h1) rfl ?_
    refine TE_q rfl rfl (RD.lss rfl rfl) rfl ?_
    refine TE_nil0 ?_
    first | refine pn_condD rfl (fun hc1 => ?_) (fun hc1 => ?_) | refine pn_condN rfl (fun hc1 => ?_) (fun hc1 => ?_) | refine pn_cond rfl (fun hc1 => ?_) (fun hc1 => ?_)
    · refine pn_skip ?_
      refine pn_seq ?_
      refine pn_block ?_
      refine pn_seq ?_
      have hq9 : ∃ x, xs[i]? = some x := ⟨_, List.getElem?_eq_getElem (by omega)⟩; obtain ⟨x, hx⟩ := hq9; have hq9 : ∃ y, ys[i]? = some y := ⟨_, List.getElem?_eq_getElem (by omega)⟩; obtain ⟨y, hy⟩ := hq9; have hq9 := h1.at hx; obtain ⟨b1, off1, cap1, hv1, hcap1, hcell1⟩ := hq9; have hq9 := h2.at hy; obtain ⟨b2, off2, cap2, hv2, hcap2, hcell2⟩ := hq9
      refine pn_drawT [3, 7] [] [] [] HX rfl rfl (by kernel_rfl) (by kernel_rfl) rfl rfl ?_
      refine TE_q rfl rfl (RD.move rfl) rfl ?_
      refine TE_q rfl rfl (RD.move rfl) rfl ?_
      refine TE_q rfl rfl (RD.indexX (i := i) Tryd.runUnderlying53 Tryd.sizeOf30 (congrArg some hv1) rfl rfl (by omega)) rfl ?_
      refine TE_q rfl rfl (RD.as (v := recV x) (RD.loadX (vs := recC x) Tryd.isAgg30 Tryd.sizeOf30 rfl rfl (fun w hw j u hu => hcell1 w (hw.sp (fun a => by simp -failIfUnchanged <;> omega)) j u hu)) (recC_agg _)) rfl ?_
      refine TE_q rfl rfl (RD.move rfl) rfl ?_
      refine TE_q rfl rfl (RD.move rfl) rfl ?_
      refine TE_q rfl rfl (RD.indexX (i := i) Tryd.runUnderlying53 Tryd.sizeOf30 (congrArg some hv2) rfl rfl (by omega)) rfl ?_
      refine TE_q rfl rfl (RD.as (v := recV y) (RD.loadX (vs := recC y) Tryd.isAgg30 Tryd.sizeOf30 rfl rfl (fun w hw j u hu => hcell2 w (hw.sp (fun a => by simp -failIfUnchanged <;> omega)) j u hu)) (recC_agg _)) rfl ?_
      refine TE_q rfl rfl (RD.neq_agg Tryd.eqGuardType30 (eq_rec x y) rfl rfl) rfl ?_
      refine TE_nil ?_
      first | refine pn_condD rfl (fun hc2 => ?_) (fun hc2 => ?_) | refine pn_condN rfl (fun hc2 => ?_) (fun hc2 => ?_) | refine pn_cond rfl (fun hc2 => ?_) (fun hc2 => ?_)
      · refine pn_seq ?_
        refine pn_plain [] rfl ?_
        refine TE_q rfl rfl (RD.assign rfl) rfl ?_
        refine TE_nil0 ?_
        refine pn_ret ?_
        exact pn_done rfl rfl ⟨by rw [sameLB_F hx hy (by simpa using hc2)]; rfl, rfl⟩ (List.nil_sublist _) (by simp)
      · refine pn_skip ?_
        refine pn_plain [] rfl ?_
        refine TE_q rfl rfl (RD.move rfl) rfl ?_
        refine TE_q rfl rfl (RD.addI rfl rfl (by omega) (by omega)) rfl ?_
        refine TE_q rfl rfl (RD.assign rfl) rfl ?_
        refine TE_nil0 ?_
        (exact pn_again (i + 1) ⟨by omega, fun j x' y' hx' hy' h => by rcases Nat.lt_succ_iff_lt_or_eq.1 h with h | rfl; exact hsm j x' y' hx' hy' h; rw [hx] at hx'; rw [hy] at hy'; cases hx'; cases hy'; simpa using hc2⟩ (by show xs.length - (i + 1) < xs.length - i; omega) ⟨rfl, rfl, rfl, trivial⟩ (List.Sublist.refl _))
    · refine pn_exit ?_
      refine pn_seq ?_
      refine pn_plain [] rfl ?_
      refine TE_q rfl rfl (RD.assign rfl) rfl ?_
      refine TE_nil0 ?_
      refine pn_ret ?_
      exact pn_done rfl rfl ⟨by rw [sameLB_T (by omega) (fun j x y hx hy => hsm j x y hx hy (by have := (List.getElem?_eq_some_iff.1 hx).1; omega))]; rfl, rfl⟩ (List.nil_sublist _) (by simp)

theorem recCmp_tot {x y : Rec} (h : ¬ recCmp x y < 0) (hd : dotK x ≠ dotK y) : recCmp y x < 0 := by
  rw [recCmp_lt] at *
  have : ¬ (x.s = y.s ∧ x.c = y.c) := fun h => hd (by simp [dotK, h])
  omega
/-- A record is put in its place. -/
theorem put_in {out : List Rec} {x : Rec} {a : Nat} (hs : out.Pairwise fun x y => recCmp x y < 0) (hle : a ≤ out.length) (h1 : ∀ (j : Nat) (y : Rec), out[j]? = some y → j < a → recCmp y x < 0) (h2 : ∀ (j : Nat) (y : Rec), out[j]? = some y → a ≤ j → ¬ recCmp y x < 0) (hd : ∀ y ∈ out, dotK y ≠ dotK x) :
    ([] ++ out.take a ++ [x] ++ out.drop a).Pairwise (fun x y => recCmp x y < 0) ∧ ([] ++ out.take a ++ [x] ++ out.drop a).Perm (out ++ [x]) := by
  have t1 : ∀ y ∈ out.take a, recCmp y x < 0 := fun y hy => by
    obtain ⟨j, hj, rfl⟩ := List.getElem_of_mem hy
    have hj' : j < a ∧ j < out.length := by rw [List.length_take] at hj; omega
    refine h1 j _ ?_ hj'.1
    rw [List.getElem_take]; exact List.getElem?_eq_getElem hj'.2
  have t2 : ∀ y ∈ out.drop a, recCmp x y < 0 := fun y hy => by
    obtain ⟨j, hj, rfl⟩ := List.getElem_of_mem hy
    have hj' : a + j < out.length := by simp at hj; omega
    have e : (out.drop a)[j] = out[a + j] := List.getElem_drop ..
    rw [e]
    exact recCmp_tot (h2 (a + j) _ (List.getElem?_eq_getElem hj') (by omega)) (hd _ (List.getElem_mem hj'))
  have hs' := hs
  rw [← List.take_append_drop a out, List.pairwise_append] at hs'
  constructor
  · rw [List.nil_append, List.pairwise_append, List.pairwise_append]
    refine ⟨⟨hs'.1, by simp, fun y hy z hz => ?_⟩, hs'.2.1, fun y hy z hz => ?_⟩
    · simp only [List.mem_cons, List.not_mem_nil, or_false] at hz; subst hz; exact t1 y hy
    · rcases List.mem_append.1 hy with hy | hy
      · exact hs'.2.2 y hy z hz
      · simp only [List.mem_cons, List.not_mem_nil, or_false] at hy; subst hy; exact t2 z hz
  · rw [List.nil_append, List.append_assoc]
    refine (List.perm_append_comm_assoc _ _ _).trans ?_
    rw [List.take_append_drop]; exact List.perm_append_comm
theorem perm_dots {out l : List Rec} (h : out.Perm l) {x : Rec} (hn : dotK x ∉ l.map dotK) : ∀ y ∈ out, dotK y ≠ dotK x := fun y hy he => hn (by rw [← he]; exact List.mem_map.2 ⟨y, h.mem_iff.1 hy, rfl⟩)
theorem all_lt {out : List Rec} (hs : out.Pairwise fun x y => recCmp x y < 0) {x y : Rec} {k : Nat} (hk : out[k]? = some y) (h : recCmp y x < 0) : ∀ (j : Nat) (z : Rec), out[j]? = some z → j < k + 1 → recCmp z x < 0 := fun j z hz hj => by
  obtain ⟨hk1, rfl⟩ := List.getElem?_eq_some_iff.1 hk
  obtain ⟨hj1, rfl⟩ := List.getElem?_eq_some_iff.1 hz
  rcases Nat.lt_succ_iff_lt_or_eq.1 hj with hj | rfl
  · exact recCmp_tr _ _ _ (List.pairwise_iff_getElem.1 hs j k hj1 hk1 hj) h
  · exact h

set_option maxHeartbeats 2000000 in

theorem c_r12Order (HX : Mem) (v : Value) (l : List Rec) (w : World) (hb : Rdx 52 recC HX v l) (hok : ∀ r ∈ l, RecOk r) (hlen : l.length ≤ 1000) (hH : Hp HX w) : Calls Tryd.prog 22 #[v] w (Ret w [] fun v H1 => (∃ ys st, ys.Perm l ∧ ys.Pairwise (fun x y => recCmp x y < 0) ∧ ordOk l = true ∧ v = .tuple #[bldVx ys st, .int .i64 0] ∧ H1 = bldMx 30 recC ys st ∧ BldOk 52 recC ys st) ∨ (ordOk l = false ∧ v = .tuple #[.slice none 0 0, .int .i64 120] ∧ H1 = [])) := by
  refine fn_enter (args := [_]) Tryd.func22 rfl Tryd.ntmps22 rfl hH ?_
  refine pn_seq ?_
  refine pn_plain [] rfl ?_
  refine TE_q rfl rfl (RD.assign rfl) rfl ?_
  refine TE_q rfl rfl (RD.assign rfl) rfl ?_
  refine TE_nil0 ?_
  refine pn_seq ?_
  refine pn_plain [] rfl ?_
  refine TE_q rfl rfl (RD.assign rfl) rfl ?_
  refine TE_nil0 ?_
  refine pn_seq ?_
  refine pn_seq ?_
  refine pn_plain [] rfl ?_
  refine TE_q rfl rfl (RD.assign rfl) rfl ?_
  refine TE_nil0 ?_
  refine pn_block ?_
  refine pn_loopS (σ := Nat × List Rec × SnkS) (fun q => [(5, .int .i64 (q.1 : Int)), (4, bldVx q.2.1 q.2.2), (0, v)]) (fun q => bldMx 30 recC q.2.1 q.2.2 ++ HX) (fun q => q.1 ≤ l.length ∧ BldOk 52 recC q.2.1 q.2.2 ∧ (∀ e ∈ bldMx 30 recC q.2.1 q.2.2, w.heap.size ≤ e.1 ∨ e.1 ∈ ([] : List Nat)) ∧ q.2.1.Perm (l.take q.1) ∧ q.2.1.Pairwise (fun x y => recCmp x y < 0) ∧ (∀ j (hj : j < l.length), j < q.1 → recOkB l[j] = true) ∧ ((l.take q.1).map dotK).Nodup) (fun q => l.length - q.1) (0, [], none) ⟨Nat.zero_le _, BldOk.nil, by simp [bldMx], by simp, .nil, fun j _ h => absurd h (by omega), by simp⟩ ⟨rfl, rfl, rfl, trivial⟩ (fun a => by simp -failIfUnchanged <;> omega) ?_
  rintro ⟨i, out, st⟩ ⟨hi, hbo, hX, hperm, hsort, hall, hnd⟩; dsimp only at hi hbo hX hperm hsort hall hnd ⊢
  refine pn_seq ?_
  refine pn_seq ?_
  refine pn_plain [2] rfl ?_
  refine TE_q rfl rfl (RD.move rfl) rfl ?_
  refine TE_q rfl rfl (RD.move rfl) rfl ?_
  refine TE_q rfl rfl (RD.lenX Tryd.runUnderlying53 rfl hb) rfl ?_
  refine TE_q rfl rfl (RD.lss rfl rfl) rfl ?_
  refine TE_nil0 ?_
  first | refine pn_condD rfl (fun hc0 => ?_) (fun hc0 => ?_) | refine pn_condN rfl (fun hc0 => ?_) (fun hc0 => ?_) | refine pn_cond rfl (fun hc0 => ?_) (fun hc0 => ?_)
  · refine pn_skip ?_
    refine pn_seq ?_
    refine pn_block ?_
    refine pn_seq ?_
    refine pn_seq ?_
    have hlt : i < l.length := (by omega); have hq9 : ∃ x, l[i]? = some x := ⟨_, List.getElem?_eq_getElem hlt⟩; obtain ⟨x, hx⟩ := hq9; have hq9 := hb.at hx; obtain ⟨b, off, cap, hv, hcap, hcell⟩ := hq9; have hxo := hok x (List.mem_of_getElem? hx); have hol : out.length ≤ 1000 := (by have := hperm.length_eq; rw [List.length_take] at this; omega); have hRo : Rdx 52 recC (bldMx 30 recC out st) (bldVx out st) out := hbo.rdx recC_len
    refine pn_plain [] rfl ?_
    refine TE_q rfl rfl (RD.move rfl) rfl ?_
    refine TE_q rfl rfl (RD.move rfl) rfl ?_
    refine TE_q rfl rfl (RD.indexX (i := i) Tryd.runUnderlying53 Tryd.sizeOf30 (congrArg some hv) rfl rfl hlt) rfl ?_
    refine TE_l rfl rfl trivial rfl (RD.as (v := recV x) (RD.loadX (vs := recC x) Tryd.isAgg30 Tryd.sizeOf30 rfl rfl (fun w hw j u hu => hcell w (hw.sp (fun a => by simp -failIfUnchanged <;> omega)) j u hu)) (recC_agg _)) rfl ?_
    refine TE_call rfl rfl trivial Tryd.call20 rfl rfl rfl (fun w hs' => c_r12Check x w hxo) ?_
    rintro v20 H4 ⟨rfl, rfl⟩ -
    refine TE_q rfl rfl (RD.neq rfl rfl) rfl ?_
    refine TE_nil0 ?_
    first | refine pn_condD rfl (fun hc1 => ?_) (fun hc1 => ?_) | refine pn_condN rfl (fun hc1 => ?_) (fun hc1 => ?_) | refine pn_cond rfl (fun hc1 => ?_) (fun hc1 => ?_)
    · refine pn_seq ?_
      refine pn_plain [] rfl ?_
      refine TE_q rfl rfl (RD.assign rfl) rfl ?_
      refine TE_q rfl rfl (RD.assign rfl) rfl ?_
      refine TE_nil0 ?_
      refine pn_ret ?_
      exact pn_done (H1 := []) rfl rfl (.inr ⟨ordOk_F1 hlt (by rw [(List.getElem?_eq_some_iff.1 hx).2]; exact err1 (by assumption)), rfl, rfl⟩) (List.nil_sublist _) (by simp)
    · refine pn_skip ?_
      refine pn_seq ?_
      refine pn_plain [] rfl ?_
      refine TE_q rfl rfl (RD.assign rfl) rfl ?_
      refine TE_nil0 ?_
      refine pn_seq ?_
      refine pn_seq ?_
      refine pn_plain [] rfl ?_
      refine TE_q rfl rfl (RD.assign rfl) rfl ?_
      refine TE_nil0 ?_
      refine pn_block ?_
      refine pn_loopS (σ := Nat × Nat) (fun q => [(7, .int .i64 (q.1 : Int)), (6, .int .i64 (q.2 : Int)), (5, .int .i64 (i : Int)), (4, bldVx out st), (0, v)]) (fun _ => (bldMx 30 recC out st ++ HX)) (fun q => q.1 ≤ out.length ∧ q.2 ≤ q.1 ∧ (∀ (j : Nat) (y : Rec), out[j]? = some y → j < q.1 → dotK y ≠ dotK x) ∧ (∀ (j : Nat) (y : Rec), out[j]? = some y → j < q.2 → recCmp y x < 0) ∧ (∀ (j : Nat) (y : Rec), out[j]? = some y → q.2 ≤ j → j < q.1 → ¬ recCmp y x < 0)) (fun q => out.length - q.1) (0, 0) ⟨Nat.zero_le _, Nat.le_refl _, fun _ _ _ h => absurd h (by omega), fun _ _ _ h => absurd h (by omega), fun _ _ _ _ h => absurd h (by omega)⟩ ⟨rfl, rfl, rfl, rfl, rfl, trivial⟩ (fun a => by simp -failIfUnchanged <;> omega) ?_
      rintro ⟨k, a⟩ ⟨hk, hak, hdot, hlo, hhi⟩; dsimp only at hk hak hdot hlo hhi ⊢
      refine pn_seq ?_
      refine pn_seq ?_
      refine pn_plain [2] rfl ?_
      refine TE_q rfl rfl (RD.move rfl) rfl ?_
      refine TE_q rfl rfl (RD.move rfl) rfl ?_
      refine TE_q rfl rfl (RD.lenX Tryd.runUnderlying53 rfl hRo) rfl ?_
      refine TE_q rfl rfl (RD.lss rfl rfl) rfl ?_
      refine TE_nil0 ?_
      first | refine pn_condD rfl (fun hc2 => ?_) (fun hc2 => ?_) | refine pn_condN rfl (fun hc2 => ?_) (fun hc2 => ?_) | refine pn_cond rfl (fun hc2 => ?_) (fun hc2 => ?_)
      · refine pn_skip ?_
        refine pn_seq ?_
        refine pn_block ?_
        refine pn_seq ?_
        refine pn_seq ?_
        have hq9 : ∃ y, out[k]? = some y := ⟨_, List.getElem?_eq_getElem (by omega)⟩; obtain ⟨y, hy⟩ := hq9; have hq9 := hRo.at hy; obtain ⟨b', off', cap', hv', hcap', hcell'⟩ := hq9; have hyo := hok y (List.take_subset _ _ (hperm.mem_iff.1 (List.mem_of_getElem? hy)))
        refine pn_drawT [4, 9] [] [] [] (bldMx 30 recC out st ++ HX) rfl rfl (by kernel_rfl) (by kernel_rfl) rfl rfl ?_
        refine TE_q rfl rfl (RD.move rfl) rfl ?_
        refine TE_q rfl rfl (RD.move rfl) rfl ?_
        refine TE_q rfl rfl (RD.indexX (i := k) Tryd.runUnderlying53 Tryd.sizeOf30 (congrArg some hv') rfl rfl (by omega)) rfl ?_
        refine TE_q rfl rfl (RD.fieldAddr (o := off' + k * 52) Tryd.runUnderlying30 rfl rfl Tryd.sizeOf23 rfl) rfl ?_
        refine TE_q rfl rfl (RD.as (v := dotV y.s y.c) (RD.loadX (vs := dotC y) Tryd.isAgg23 Tryd.sizeOf23 rfl rfl (fun w hw j u hu => hcell' w (hw.sp (fun a => by simp -failIfUnchanged <;> omega)) j u (dotC_in hu))) (dotC_agg _)) rfl ?_
        refine TE_q rfl rfl (RD.move rfl) rfl ?_
        refine TE_q rfl rfl (RD.move rfl) rfl ?_
        refine TE_q rfl rfl (RD.indexX (i := i) Tryd.runUnderlying53 Tryd.sizeOf30 (congrArg some hv) rfl rfl hlt) rfl ?_
        refine TE_q rfl rfl (RD.fieldAddr (o := off + i * 52) Tryd.runUnderlying30 rfl rfl Tryd.sizeOf23 rfl) rfl ?_
        refine TE_q rfl rfl (RD.as (v := dotV x.s x.c) (RD.loadX (vs := dotC x) Tryd.isAgg23 Tryd.sizeOf23 rfl rfl (fun w hw j u hu => hcell w (hw.sp (fun a => by simp -failIfUnchanged <;> omega)) j u (dotC_in hu))) (dotC_agg _)) rfl ?_
        refine TE_q rfl rfl (RD.as (v := .bool (decide (dotK y = dotK x))) (RD.eql_agg Tryd.eqGuardType23 (eq_dot y.s y.c x.s x.c) rfl rfl) (congrArg Value.bool eq_dotK)) rfl ?_
        refine TE_nil ?_
        first | refine pn_condD rfl (fun hc3 => ?_) (fun hc3 => ?_) | refine pn_condN rfl (fun hc3 => ?_) (fun hc3 => ?_) | refine pn_cond rfl (fun hc3 => ?_) (fun hc3 => ?_)
        · refine pn_seq ?_
          refine pn_plain [] rfl ?_
          refine TE_q rfl rfl (RD.assign rfl) rfl ?_
          refine TE_q rfl rfl (RD.assign rfl) rfl ?_
          refine TE_nil0 ?_
          refine pn_ret ?_
          exact pn_done (H1 := []) rfl rfl (.inr ⟨ordOk_F2 hlt (by rw [(List.getElem?_eq_some_iff.1 hx).2, ← ‹dotK y = dotK x›]; exact List.mem_map.2 ⟨y, hperm.mem_iff.1 (List.mem_of_getElem? hy), rfl⟩), rfl, rfl⟩) (List.nil_sublist _) (by simp)
        · refine pn_skip ?_
          refine pn_seq ?_
          refine pn_drawT [3, 7] [] [] [] (bldMx 30 recC out st ++ HX) rfl rfl (by kernel_rfl) (by kernel_rfl) rfl rfl ?_
          refine TE_q rfl rfl (RD.move rfl) rfl ?_
          refine TE_q rfl rfl (RD.move rfl) rfl ?_
          refine TE_q rfl rfl (RD.indexX (i := k) Tryd.runUnderlying53 Tryd.sizeOf30 (congrArg some hv') rfl rfl (by omega)) rfl ?_
          refine TE_q rfl rfl (RD.as (v := recV y) (RD.loadX (vs := recC y) Tryd.isAgg30 Tryd.sizeOf30 rfl rfl (fun w hw j u hu => hcell' w (hw.sp (fun a => by simp -failIfUnchanged <;> omega)) j u hu)) (recC_agg _)) rfl ?_
          refine TE_q rfl rfl (RD.move rfl) rfl ?_
          refine TE_q rfl rfl (RD.move rfl) rfl ?_
          refine TE_q rfl rfl (RD.indexX (i := i) Tryd.runUnderlying53 Tryd.sizeOf30 (congrArg some hv) rfl rfl hlt) rfl ?_
          refine TE_q rfl rfl (RD.as (v := recV x) (RD.loadX (vs := recC x) Tryd.isAgg30 Tryd.sizeOf30 rfl rfl (fun w hw j u hu => hcell w (hw.sp (fun a => by simp -failIfUnchanged <;> omega)) j u hu)) (recC_agg _)) rfl ?_
          refine TE_call rfl rfl trivial Tryd.call56 rfl rfl rfl (fun w hs' => c_r12First y x w hyo hxo) ?_
          rintro v47 H8 ⟨rfl, rfl⟩ -
          refine TE_q rfl rfl (RD.assign rfl) rfl ?_
          refine TE_nil ?_
          refine pn_seq ?_
          refine pn_plain [] rfl ?_
          refine TE_q rfl rfl (RD.move rfl) rfl ?_
          refine TE_nil0 ?_
          first | refine pn_condD rfl (fun hc4 => ?_) (fun hc4 => ?_) | refine pn_condN rfl (fun hc4 => ?_) (fun hc4 => ?_) | refine pn_cond rfl (fun hc4 => ?_) (fun hc4 => ?_)
          · refine pn_plain [] rfl ?_
            refine TE_q rfl rfl (RD.move rfl) rfl ?_
            refine TE_q rfl rfl (RD.addI rfl rfl (by omega) (by omega)) rfl ?_
            refine TE_q rfl rfl (RD.assign rfl) rfl ?_
            refine TE_nil0 ?_
            refine pn_plain [] rfl ?_
            refine TE_q rfl rfl (RD.move rfl) rfl ?_
            refine TE_q rfl rfl (RD.addI rfl rfl (by omega) (by omega)) rfl ?_
            refine TE_q rfl rfl (RD.assign rfl) rfl ?_
            refine TE_nil0 ?_
            (first | exact pn_againS (k + 1, k + 1) ⟨by show k + 1 ≤ _; omega, Nat.le_refl _, fun j z hz h => by rcases Nat.lt_succ_iff_lt_or_eq.1 h with h | rfl; exact hdot j z hz h; rw [hy] at hz; cases hz; assumption, all_lt hsort hy (by assumption), fun j z hz h1 h2 => absurd h2 (by omega)⟩ (by show out.length - (k + 1) < out.length - k; omega) ⟨rfl, rfl, rfl, rfl, rfl, trivial⟩ (fun a => by simp -failIfUnchanged <;> omega) | exact pn_againS (k + 1, a) ⟨by show k + 1 ≤ _; omega, by show a ≤ k + 1; omega, fun j z hz h => by rcases Nat.lt_succ_iff_lt_or_eq.1 h with h | rfl; exact hdot j z hz h; rw [hy] at hz; cases hz; assumption, hlo, fun j z hz h1 h2 => by rcases Nat.lt_succ_iff_lt_or_eq.1 h2 with h2 | rfl; exact hhi j z hz h1 h2; rw [hy] at hz; cases hz; assumption⟩ (by show out.length - (k + 1) < out.length - k; omega) ⟨rfl, rfl, rfl, rfl, rfl, trivial⟩ (fun a => by simp -failIfUnchanged <;> omega))
          · refine pn_skip ?_
            refine pn_plain [] rfl ?_
            refine TE_q rfl rfl (RD.move rfl) rfl ?_
            refine TE_q rfl rfl (RD.addI rfl rfl (by omega) (by omega)) rfl ?_
            refine TE_q rfl rfl (RD.assign rfl) rfl ?_
            refine TE_nil0 ?_
            (first | exact pn_againS (k + 1, k + 1) ⟨by show k + 1 ≤ _; omega, Nat.le_refl _, fun j z hz h => by rcases Nat.lt_succ_iff_lt_or_eq.1 h with h | rfl; exact hdot j z hz h; rw [hy] at hz; cases hz; assumption, all_lt hsort hy (by assumption), fun j z hz h1 h2 => absurd h2 (by omega)⟩ (by show out.length - (k + 1) < out.length - k; omega) ⟨rfl, rfl, rfl, rfl, rfl, trivial⟩ (fun a => by simp -failIfUnchanged <;> omega) | exact pn_againS (k + 1, a) ⟨by show k + 1 ≤ _; omega, by show a ≤ k + 1; omega, fun j z hz h => by rcases Nat.lt_succ_iff_lt_or_eq.1 h with h | rfl; exact hdot j z hz h; rw [hy] at hz; cases hz; assumption, hlo, fun j z hz h1 h2 => by rcases Nat.lt_succ_iff_lt_or_eq.1 h2 with h2 | rfl; exact hhi j z hz h1 h2; rw [hy] at hz; cases hz; assumption⟩ (by show out.length - (k + 1) < out.length - k; omega) ⟨rfl, rfl, rfl, rfl, rfl, trivial⟩ (fun a => by simp -failIfUnchanged <;> omega))
      · refine pn_exit ?_
        refine pn_seq ?_
        refine pn_plain [] rfl ?_
        refine TE_q rfl rfl (RD.assign rfl) rfl ?_
        refine TE_nil0 ?_
        refine pn_seq ?_
        have hRa : Rdx 52 recC (bldMx 30 recC out st) (subVx 52 0 a (bldVx out st)) (out.take a) := (by simpa using hRo.sub (l := 0) (r := a) (Nat.zero_le _) (by omega))
        refine pn_plain [] rfl ?_
        refine TE_q rfl rfl (RD.move rfl) rfl ?_
        refine TE_q rfl rfl (RD.move rfl) rfl ?_
        refine TE_q rfl rfl (RD.move rfl) rfl ?_
        refine TE_q rfl rfl (RD.sliceX (h := a) Tryd.runUnderlying53 Tryd.sizeOf30 rfl hRo rfl ⟨_, rfl⟩ (Nat.zero_le _) (by omega)) rfl ?_
        refine TE_appendX (st := none) (l := []) (ys := out.take a) ((bldMx 30 recC out st ++ HX)) recC_len recC_one rfl rfl rfl rfl trivial rfl Tryd.underlying53 elRec rfl rfl rfl BldOk.nil hRa (fun _ hw => hw.sp (fun a => by simp -failIfUnchanged <;> omega)) (by simp; omega) rfl (bldx_all (fun k => w.heap.size ≤ k ∨ k ∈ ([] : List Nat)) (by rintro b cap tl ⟨⟩)) ?_
        intro st1 hbo1 hX1 _
        refine TE_q rfl rfl (RD.assign rfl) rfl ?_
        refine TE_nil0 ?_
        refine pn_seq ?_
        refine pn_plain [] rfl ?_
        refine TE_q rfl rfl (RD.move rfl) rfl ?_
        refine TE_q rfl rfl (RD.move rfl) rfl ?_
        refine TE_q rfl rfl (RD.move rfl) rfl ?_
        refine TE_q rfl rfl (RD.indexX (i := i) Tryd.runUnderlying53 Tryd.sizeOf30 (congrArg some hv) rfl rfl hlt) rfl ?_
        refine TE_l rfl rfl trivial rfl (RD.as (v := recV x) (RD.loadX (vs := recC x) Tryd.isAgg30 Tryd.sizeOf30 rfl rfl (fun w hw j u hu => hcell w (hw.sp (fun a => by simp -failIfUnchanged <;> omega)) j u hu)) (recC_agg _)) rfl ?_
        refine TE_buildSlice (cells := (recV x).cells) rfl Tryd.runUnderlying53 Tryd.sizeOf30 Tryd.zeroValue30 rfl rfl rfl (by kernel_rfl) trivial rfl fun b61 hb61 => ?_
        refine TE_sp (bldMx 30 recC ([] ++ out.take a) st1 ++ ((b61, .cells (recV x).cells 30 (0, 0)) :: (bldMx 30 recC out st ++ HX))) (fun a => by simp -failIfUnchanged <;> omega) ?_
        refine TE_appendX (st := st1) (l := ([] ++ out.take a)) (ys := [x]) ((b61, .cells (recV x).cells 30 (0, 0)) :: (bldMx 30 recC out st ++ HX)) recC_len recC_one rfl rfl rfl rfl trivial rfl Tryd.underlying53 elRec rfl rfl rfl hbo1 (Rdx.blk (H := [(b61, .cells (recV x).cells 30 (0, 0))]) (i := 0) (tl := []) (c := 1) recC_len (by rw [cells1]; rfl) rfl (Nat.le_refl _)) (fun _ hw => hw.sp (fun a => by simp -failIfUnchanged <;> omega)) (by simp; omega) rfl hX1 ?_
        intro st2 hbo2 hX2 _
        refine TE_q rfl rfl (RD.assign rfl) rfl ?_
        refine TE_nil0 ?_
        have hRd : Rdx 52 recC (bldMx 30 recC out st) (subVx 52 a out.length (bldVx out st)) (out.drop a) := (by simpa using hRo.sub (l := a) (r := out.length) (by omega) (Nat.le_refl _))
        refine pn_plain [] rfl ?_
        refine TE_q rfl rfl (RD.move rfl) rfl ?_
        refine TE_q rfl rfl (RD.move rfl) rfl ?_
        refine TE_q rfl rfl (RD.move rfl) rfl ?_
        refine TE_q rfl rfl (RD.sliceX (l := a) (h := out.length) Tryd.runUnderlying53 Tryd.sizeOf30 rfl hRo ⟨_, rfl⟩ rfl (by omega) (Nat.le_refl _)) rfl ?_
        refine TE_appendX (st := st2) (l := ([] ++ out.take a ++ [x])) (ys := out.drop a) ((b61, .cells (recV x).cells 30 (0, 0)) :: (bldMx 30 recC out st ++ HX)) recC_len recC_one rfl rfl rfl rfl trivial rfl Tryd.underlying53 elRec rfl rfl rfl hbo2 hRd (fun _ hw => hw.sp (fun a => by simp -failIfUnchanged <;> omega)) (by simp; omega) rfl hX2 ?_
        intro st3 hbo3 hX3 _
        refine TE_q rfl rfl (RD.assign rfl) rfl ?_
        refine TE_nil0 ?_
        refine pn_plain [] rfl ?_
        refine TE_q rfl rfl (RD.move rfl) rfl ?_
        refine TE_q rfl rfl (RD.addI rfl rfl (by omega) (by omega)) rfl ?_
        refine TE_q rfl rfl (RD.assign rfl) rfl ?_
        refine TE_nil0 ?_
        (have hnx : dotK x ∉ (l.take i).map dotK := (fun hm => by obtain ⟨y, hy, he⟩ := List.mem_map.1 hm; obtain ⟨j, hj⟩ := List.mem_iff_getElem?.1 (hperm.mem_iff.2 hy); exact hdot j y hj (by have := (List.getElem?_eq_some_iff.1 hj).1; omega) he); have hput := put_in hsort (by omega) hlo (fun j y hj hle => hhi j y hj hle (by have := (List.getElem?_eq_some_iff.1 hj).1; omega)) (perm_dots hperm hnx); have hts : l.take (i + 1) = l.take i ++ [x] := (by rw [List.take_succ_eq_append_getElem hlt]; congr 2; exact (List.getElem?_eq_some_iff.1 hx).2); exact pn_againS (i + 1, ([] ++ out.take a ++ [x] ++ out.drop a), st3) ⟨by show i + 1 ≤ _; omega, hbo3, hX3, by rw [hts]; exact hput.2.trans (hperm.append_right _), hput.1, fun j hj h => by rcases Nat.lt_succ_iff_lt_or_eq.1 h with h | rfl; exact hall j hj h; rw [(List.getElem?_eq_some_iff.1 hx).2]; exact err0 (by assumption), by rw [hts, List.map_append, List.nodup_append]; exact ⟨hnd, by simp, fun a ha b hb' => by simp only [List.map_cons, List.map_nil, List.mem_cons, List.not_mem_nil, or_false] at hb'; subst hb'; exact fun h => hnx (h ▸ ha)⟩⟩ (by show l.length - (i + 1) < l.length - i; omega) ⟨rfl, rfl, rfl, trivial⟩ (fun a => by simp -failIfUnchanged <;> omega))
  · refine pn_exit ?_
    refine pn_seq ?_
    refine pn_plain [] rfl ?_
    refine TE_q rfl rfl (RD.move rfl) rfl ?_
    refine TE_q rfl rfl (RD.assign rfl) rfl ?_
    refine TE_q rfl rfl (RD.assign rfl) rfl ?_
    refine TE_nil0 ?_
    refine pn_ret ?_
    exact pn_doneS (bldMx 30 recC out st) rfl rfl (.inl ⟨out, st, by rwa [List.take_of_length_le (by omega)] at hperm, hsort, ordOk_T (fun j hj => hall j hj (by omega)) (by rwa [List.take_of_length_le (by omega)] at hnd), rfl, rfl, hbo⟩) (fun a => by simp -failIfUnchanged <;> omega) hX

end Go.Proofs.YthagkkmbbncclaaDoor
