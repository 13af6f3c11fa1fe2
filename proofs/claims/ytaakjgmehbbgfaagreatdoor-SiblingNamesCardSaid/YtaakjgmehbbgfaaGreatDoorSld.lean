import Derived.Test.YtaakjgmehbbgfaaGreatDoorSbs
namespace Go.Proofs.YtaakjgmehbbgfaaGreatDoor
open Go Go.Mv
set_option maxRecDepth 8000
def refL : List Rec → ByteArray
  | [] => ⟨#[]⟩
  | x :: _ => x.ref
theorem refL_0 {l : List Rec} {z : Rec} (h : l[0]? = some z) : refL l = z.ref := by
  cases l with
  | nil => simp at h
  | cons x l => simp only [List.getElem?_cons_zero, Option.some.injEq] at h; subst h; rfl
def loadP (l : List Rec) (i : Nat) (x : Rec) : Prop := recOkB x = true ∧ x.ref = refL l ∧ (∀ (j : Nat) (y : Rec), i = j + 1 → l[j]? = some y → dotCmp y.s y.c x.s x.c < 0) ∧ ∀ y ∈ l, outdoesB x y = false
def loadOk (l : List Rec) : Prop := l ≠ [] ∧ ∀ (i : Nat) (x : Rec), l[i]? = some x → loadP l i x
theorem c_outdone (x y : Rec) (w : World) (hx : RecOk x) : Calls Tryz.prog 41 #[recV x, recV y] w (Ret w [] fun v H1 => v = .bool (outdoesB x y) ∧ H1 = []) := by
  refine fn_enter (args := [_, _]) Tryz.func41 rfl Tryz.ntmps41 rfl (Hp.nil w) ?_
  refine pn_seq ?_
  refine pn_plain [] rfl ?_
  refine TE_box rfl rfl trivial rfl fun b2 hb2 => ?_
  refine TE_box rfl rfl trivial rfl fun b3 hb3 => ?_
  refine TE_q rfl rfl (RD.assign rfl) rfl ?_
  refine TE_nil0 ?_
  refine pn_seq ?_
  refine pn_plain [] rfl ?_
  refine TE_l rfl rfl trivial rfl (RD.loadA (i := 1) Tryz.isAgg86 Tryz.sizeOf86 rfl rfl (Nat.le_of_ble_eq_true rfl) (rec_all _)) rfl ?_
  refine TE_l rfl rfl trivial rfl (RD.loadA (i := 0) Tryz.isAgg40 Tryz.sizeOf40 rfl rfl (Nat.le_of_ble_eq_true rfl) (rec_all _)) rfl ?_
  refine TE_call rfl rfl trivial Tryz.call20 rfl rfl rfl (fun w hs' => c_outdoes x y w hx) ?_
  rintro v7 H2 ⟨rfl, rfl⟩ -
  refine TE_q rfl rfl (RD.assign rfl) rfl ?_
  refine TE_nil0 ?_
  refine pn_ret ?_
  exact pn_done rfl rfl ⟨rfl, rfl⟩ (List.nil_sublist _) (by simp)

theorem bd_sib (r : ByteArray) (l : List Rec) (st : SnkS) (w : World) : (Instr.build 56 #[(0, .string r), (1, bldVx l st)]).run Tryz.prog w = .ok (.agg #[.string r, bldVx l st]) w := by
  rcases st with _ | ⟨b, c, tl⟩ <;> simp [Instr.build, Tryz.zeroValue56, Tryz.runUnderlying56, Tryz.sizeOf9, Tryz.sizeOf22, Value.cells, Instr.fill, bldVx]
set_option maxHeartbeats 2000000 in
theorem c_sibLoad (HX : Mem) (v : Value) (l : List Rec) (g : Obj) (w : World) (hb : Rdx 52 recC ((0, g) :: HX) v l) (hok : ∀ r ∈ l, RecOk r) (hsz : ∀ r ∈ l, r.ref.size < 4294967281) (hlen : l.length ≤ 1000000) (hg : GOk g) (hH : Hp ((0, g) :: HX) w) : Calls Tryz.prog 10 #[v] w (Ret w [] fun r H1 => (∃ bs st, BldOk 52 recC l st ∧ loadOk l ∧ r = .tuple #[.pointer (some ⟨bs, 0, none⟩), .int .i64 0] ∧ H1 = (bs, .cells #[.string (refL l), bldVx l st] 56 (0, 0)) :: bldMx 40 recC l st) ∨ (¬ loadOk l ∧ r = .tuple #[.pointer none, .int .i64 190] ∧ H1 = [])) := by
  refine fn_enter (args := [_]) Tryz.func10 rfl Tryz.ntmps10 rfl hH ?_
  refine pn_seq ?_
  refine pn_plain [] rfl ?_
  refine TE_q rfl rfl (RD.assign rfl) rfl ?_
  refine TE_q rfl rfl (RD.assign rfl) rfl ?_
  refine TE_nil0 ?_
  refine pn_seq ?_
  refine pn_seq ?_
  refine pn_plain [1] rfl ?_
  refine TE_q rfl rfl (RD.move rfl) rfl ?_
  refine TE_q rfl rfl (RD.lenX Tryz.runUnderlying22 rfl hb) rfl ?_
  refine TE_q rfl rfl (RD.eql rfl rfl) rfl ?_
  refine TE_nil0 ?_
  first | refine pn_condD rfl (fun hc0 => ?_) (fun hc0 => ?_) | refine pn_condN rfl (fun hc0 => ?_) (fun hc0 => ?_) | refine pn_cond rfl (fun hc0 => ?_) (fun hc0 => ?_)
  · refine pn_seq ?_
    refine pn_plain [] rfl ?_
    refine TE_q rfl rfl (RD.assign rfl) rfl ?_
    refine TE_q rfl rfl (RD.assign rfl) rfl ?_
    refine TE_nil0 ?_
    refine pn_ret ?_
    exact pn_done (H1 := []) rfl rfl (.inr ⟨fun h => h.1 (List.eq_nil_of_length_eq_zero (by omega)), rfl, rfl⟩) (List.nil_sublist _) (by simp)
  · refine pn_skip ?_
    refine pn_seq ?_
    refine pn_seq ?_
    refine pn_plain [1] rfl ?_
    refine TE_q rfl rfl (RD.move rfl) rfl ?_
    refine TE_q rfl rfl (RD.lenX Tryz.runUnderlying22 rfl hb) rfl ?_
    refine TE_q rfl rfl (RD.move rfl) rfl ?_
    refine TE_nil0 ?_
    refine pn_block ?_
    refine pn_loop (σ := Nat) (fun i => [(11, .int .i64 (i : Int)), (10, .int .i64 l.length), (9, v), (0, v)]) (fun _ => ((0, g) :: HX)) (fun i => i ≤ l.length ∧ ∀ (j : Nat) (x : Rec), j < i → l[j]? = some x → loadP l j x) (fun i => l.length - i) 0 ⟨Nat.zero_le _, fun _ _ h => absurd h (by omega)⟩ ⟨rfl, rfl, rfl, rfl, trivial⟩ (List.Sublist.refl _) ?_
    rintro i ⟨hi, hall⟩
    refine pn_seq ?_
    refine pn_plain [] rfl ?_
    refine TE_q rfl rfl (RD.lss rfl rfl) rfl ?_
    refine TE_nil0 ?_
    refine pn_seq ?_
    first | refine pn_condD rfl (fun hc1 => ?_) (fun hc1 => ?_) | refine pn_condN rfl (fun hc1 => ?_) (fun hc1 => ?_) | refine pn_cond rfl (fun hc1 => ?_) (fun hc1 => ?_)
    · refine pn_skip ?_
      refine pn_seq ?_
      refine pn_block ?_
      refine pn_seq ?_
      have hlt : i < l.length := (by omega); have hq9 : ∃ x, l[i]? = some x := ⟨_, List.getElem?_eq_getElem hlt⟩; obtain ⟨x, hx⟩ := hq9; have hq9 := hb.at hx; obtain ⟨b, off, cap, hv, hcap, hcell⟩ := hq9; have hq9 : ∃ z, l[0]? = some z := ⟨_, List.getElem?_eq_getElem (by omega)⟩; obtain ⟨z, hz⟩ := hq9; have hq9 := hb.at hz; obtain ⟨bz, offz, capz, hvz, hcapz, hcellz⟩ := hq9; have hq9 : ∃ p, l[i - 1]? = some p := ⟨_, List.getElem?_eq_getElem (by omega)⟩; obtain ⟨p, hp⟩ := hq9; have hq9 := hb.at hp; obtain ⟨bp, offp, capp, hvp, hcapp, hcellp⟩ := hq9; have hxo := hok x (List.mem_of_getElem? hx); have hrz := refL_0 hz
      refine pn_plain [] rfl ?_
      refine TE_q rfl rfl (RD.move rfl) rfl ?_
      refine TE_q rfl rfl (RD.indexX (i := i) Tryz.runUnderlying22 Tryz.sizeOf40 (congrArg some hv) rfl rfl hlt) rfl ?_
      refine TE_l rfl rfl trivial rfl (RD.as (v := recV x) (RD.loadX (vs := recC x) Tryz.isAgg40 Tryz.sizeOf40 rfl rfl (fun w hw j u hu => hcell w (hw.sp (fun a => by simp -failIfUnchanged <;> omega)) j u hu)) (recC_agg _)) rfl ?_
      refine TE_alloc rfl Tryz.zeroValue40 trivial rfl fun b5 hb5 => ?_
      refine TE_q rfl rfl (RD.assign rfl) rfl ?_
      refine TE_putW (i := 0) rfl Tryz.sizeOf40 trivial rfl rfl rfl rfl rfl rfl (.inl (by assumption)) ?_
      refine TE_nil0 ?_
      refine pn_seq ?_
      refine pn_sp ((b5, .cells (recV x).cells 40 (0, 0)) :: (0, g) :: HX) (fun a => by simp -failIfUnchanged <;> omega) ?_
      refine pn_drawT [0, 5, 9, 21, 23, 30] [] [0, 1] [_, _] HX rfl rfl (by kernel_rfl) (by kernel_rfl) rfl rfl ?_
      refine TE_q rfl rfl (RD.loadA (i := 0) Tryz.isAgg40 Tryz.sizeOf40 rfl rfl (Nat.le_of_ble_eq_true rfl) (rec_all _)) rfl ?_
      refine TE_call rfl rfl trivial Tryz.call38 rfl rfl rfl (fun w hs' => c_recCheck x g w hxo hg (hsz _ (List.mem_of_getElem? hx)) (hs'.hp.sp (fun a => by simp -failIfUnchanged <;> omega))) ?_
      rintro v17 H1 ⟨rfl, rfl⟩ -
      refine TE_q rfl rfl (RD.neq rfl rfl) rfl ?_
      refine TE_q rfl rfl (RD.move rfl) rfl ?_
      (first | refine TE_isT ?_ | refine TE_isF ?_ | refine TE_dec (fun h603 => ?_) (fun h603 => ?_) | refine TE_ndec (fun h603 => ?_) (fun h603 => ?_) | refine TE_bool (fun h603 => ?_) (fun h603 => ?_))
      all_goals (first | (refine TE_s rfl rfl rfl rfl rfl ?_) | (refine TE_gq rfl rfl rfl rfl (RD.fieldAddr (o := 18) Tryz.runUnderlying40 rfl rfl Tryz.sizeOf9 rfl) rfl ?_))
      all_goals (first | (refine TE_s rfl rfl rfl rfl rfl ?_) | (refine TE_gq rfl rfl rfl rfl (RD.load (i := 0) Tryz.isAgg9 rfl rfl rfl) rfl ?_))
      all_goals (first | (refine TE_s rfl rfl rfl rfl rfl ?_) | (refine TE_gq rfl rfl rfl rfl (RD.move rfl) rfl ?_))
      all_goals (first | (refine TE_s rfl rfl rfl rfl rfl ?_) | (refine TE_gq rfl rfl rfl rfl (RD.indexX (i := 0) Tryz.runUnderlying22 Tryz.sizeOf40 (congrArg some hvz) rfl rfl (by omega)) rfl ?_))
      all_goals (first | (refine TE_s rfl rfl rfl rfl rfl ?_) | (refine TE_gq rfl rfl rfl rfl (RD.fieldAddr (o := offz + 0 * 52 + 18) Tryz.runUnderlying40 rfl rfl Tryz.sizeOf9 rfl) rfl ?_))
      all_goals (first | (refine TE_s rfl rfl rfl rfl rfl ?_) | (refine TE_gq rfl rfl rfl rfl (RD.loadC Tryz.isAgg9 rfl (fun w hw => hcellz w (hw.sp (fun a => by simp -failIfUnchanged <;> omega)) 18 _ rfl)) rfl ?_))
      all_goals (first | (refine TE_s rfl rfl rfl rfl rfl ?_) | (refine TE_gq rfl rfl rfl rfl (RD.neq_string rfl rfl) rfl ?_))
      all_goals (first | (refine TE_q rfl rfl (RD.pickT rfl rfl) rfl ?_) | (refine TE_q rfl rfl (RD.pickF rfl rfl) rfl ?_))
      all_goals refine TE_q rfl rfl (RD.move rfl) rfl ?_
      all_goals (first | refine TE_isT ?_ | refine TE_isF ?_ | refine TE_dec (fun h612 => ?_) (fun h612 => ?_) | refine TE_ndec (fun h612 => ?_) (fun h612 => ?_) | refine TE_bool (fun h612 => ?_) (fun h612 => ?_))
      all_goals (first | (refine TE_s rfl rfl rfl rfl rfl ?_) | (refine TE_gq rfl rfl rfl rfl (RD.move rfl) rfl ?_))
      all_goals (first | (refine TE_s rfl rfl rfl rfl rfl ?_) | (refine TE_gq rfl rfl rfl rfl (RD.gtr rfl rfl) rfl ?_))
      all_goals (first | (refine TE_s rfl rfl rfl rfl rfl ?_) | (refine TE_gq rfl rfl rfl rfl (RD.move rfl) rfl ?_))
      all_goals (first | refine TE_isT ?_ | refine TE_isF ?_ | refine TE_dec (fun h615 => ?_) (fun h615 => ?_) | refine TE_ndec (fun h615 => ?_) (fun h615 => ?_) | refine TE_bool (fun h615 => ?_) (fun h615 => ?_) | skip)
      all_goals (first | (refine TE_s rfl rfl rfl rfl rfl ?_) | (refine TE_su rfl rfl rfl rfl ?_) | (refine TE_gq rfl rfl rfl rfl (RD.move rfl) rfl ?_))
      all_goals (first | (refine TE_s rfl rfl rfl rfl rfl ?_) | (refine TE_su rfl rfl rfl rfl ?_) | (refine TE_gq rfl rfl rfl rfl (RD.move rfl) rfl ?_))
      all_goals (first | (refine TE_s rfl rfl rfl rfl rfl ?_) | (refine TE_su rfl rfl rfl rfl ?_) | (refine TE_gq rfl rfl rfl rfl (RD.subI rfl rfl (by omega) (by omega)) rfl ?_))
      all_goals (first | (refine TE_s rfl rfl rfl rfl rfl ?_) | (refine TE_su rfl rfl rfl rfl ?_) | (refine TE_gq rfl rfl rfl rfl (RD.indexX (i := i - 1) Tryz.runUnderlying22 Tryz.sizeOf40 (congrArg some hvp) rfl (by omega) (by omega)) rfl ?_))
      all_goals (first | (refine TE_s rfl rfl rfl rfl rfl ?_) | (refine TE_su rfl rfl rfl rfl ?_) | (refine TE_gq rfl rfl rfl rfl (RD.fieldAddr (o := offp + (i - 1) * 52) Tryz.runUnderlying40 rfl rfl Tryz.sizeOf33 rfl) rfl ?_))
      all_goals (first | (refine TE_s rfl rfl rfl rfl rfl ?_) | (refine TE_su rfl rfl rfl rfl ?_) | (refine TE_gq rfl rfl rfl rfl (RD.as (v := dotV p.s p.c) (RD.loadX (vs := dotC p) Tryz.isAgg33 Tryz.sizeOf33 rfl rfl (fun w hw j u hu => hcellp w (hw.sp (fun a => by simp -failIfUnchanged <;> omega)) j u (dotC_in hu))) (dotC_agg _)) rfl ?_))
      all_goals (first | (refine TE_s rfl rfl rfl rfl rfl ?_) | (refine TE_su rfl rfl rfl rfl ?_) | (refine TE_gq rfl rfl rfl rfl (RD.fieldAddr (o := 0) Tryz.runUnderlying40 rfl rfl Tryz.sizeOf33 rfl) rfl ?_))
      all_goals (first | (refine TE_s rfl rfl rfl rfl rfl ?_) | (refine TE_su rfl rfl rfl rfl ?_) | (refine TE_gq rfl rfl rfl rfl (RD.loadA (i := 0) Tryz.isAgg33 Tryz.sizeOf33 rfl rfl (Nat.le_of_ble_eq_true rfl) (rec_dot _)) rfl ?_))
      all_goals (first | (refine TE_s rfl rfl rfl rfl rfl ?_) | (refine TE_su rfl rfl rfl rfl ?_) | ((refine TE_call rfl rfl ⟨_, rfl, rfl⟩ Tryz.call39 rfl rfl rfl (fun w hs' => c_dotCompare p.s p.c x.s x.c w) ?_; rintro v40 H24 ⟨rfl, rfl⟩ -)))
      all_goals (first | (refine TE_s rfl rfl rfl rfl rfl ?_) | (refine TE_su rfl rfl rfl rfl ?_) | (refine TE_gq rfl rfl rfl rfl (RD.geq rfl rfl) rfl ?_))
      all_goals (first | (refine TE_s rfl rfl rfl rfl rfl ?_) | (refine TE_gq rfl rfl rfl rfl (RD.pickT rfl rfl) rfl ?_) | (refine TE_gq rfl rfl rfl rfl (RD.pickF rfl rfl) rfl ?_))
      all_goals (first | (refine TE_q rfl rfl (RD.pickT rfl rfl) rfl ?_) | (refine TE_q rfl rfl (RD.pickF rfl rfl) rfl ?_))
      all_goals refine TE_q rfl rfl (RD.move rfl) rfl ?_
      all_goals (first | refine TE_isT ?_ | refine TE_isF ?_ | refine TE_dec (fun h628 => ?_) (fun h628 => ?_) | refine TE_ndec (fun h628 => ?_) (fun h628 => ?_) | refine TE_bool (fun h628 => ?_) (fun h628 => ?_))
      all_goals (first | (refine TE_s rfl rfl rfl rfl rfl ?_) | (refine TE_gq rfl rfl rfl rfl (RD.move rfl) rfl ?_))
      all_goals (first | (refine TE_s rfl rfl rfl rfl rfl ?_) | (refine TE_gq rfl rfl rfl rfl (RD.loadA (i := 0) Tryz.isAgg40 Tryz.sizeOf40 rfl rfl (Nat.le_of_ble_eq_true rfl) (rec_all _)) rfl ?_))
      all_goals (first | (refine TE_s rfl rfl rfl rfl rfl ?_) | (refine TE_gq rfl rfl rfl rfl (RD.makeFunc rfl rfl) rfl ?_))
      all_goals (first | (refine TE_s rfl rfl rfl rfl rfl ?_) | ((refine TE_call rfl rfl ⟨_, rfl, rfl⟩ Tryz.call40 rfl rfl rfl (fun w hs' => c_containsF (fun y => outdoesB x y) 41 #[recV x] #[] Tryz.call41 ((0, g) :: HX) (fun y W _ _ => c_outdone x y W hxo) v l w hb hok hlen (hs'.hp.sp (fun a => by simp -failIfUnchanged <;> omega))) ?_; rintro v48 H32 ⟨rfl, rfl⟩ -)))
      all_goals (first | (refine TE_q rfl rfl (RD.pickT rfl rfl) rfl ?_) | (refine TE_q rfl rfl (RD.pickF rfl rfl) rfl ?_))
      all_goals refine TE_nil ?_
      all_goals first
        | (
            refine pn_condT rfl ?_
            refine pn_seq ?_
            refine pn_plain [] rfl ?_
            refine TE_q rfl rfl (RD.assign rfl) rfl ?_
            refine TE_q rfl rfl (RD.assign rfl) rfl ?_
            refine TE_nil0 ?_
            refine pn_ret ?_
            exact pn_done (H1 := []) rfl rfl (.inr ⟨fun h => by obtain ⟨p1, p2, p3, p4⟩ := h.2 i x hx; first | exact absurd (show err (recOkB x) 120 = 0 by rw [p1]; rfl) (by assumption) | exact absurd (p2.trans hrz) (by assumption) | (have := p3 (i - 1) p (by omega) hp; omega) | (obtain ⟨y, hy, he⟩ := List.any_eq_true.1 hc2; rw [p4 y hy] at he; cases he), rfl, rfl⟩) (List.nil_sublist _) (by simp))
        | (
            refine pn_condF rfl ?_
            refine pn_skip ?_
            refine pn_plain [] rfl ?_
            refine TE_q rfl rfl (RD.addI rfl rfl (by omega) (by omega)) rfl ?_
            refine TE_q rfl rfl (RD.move rfl) rfl ?_
            refine TE_nil0 ?_
            (exact pn_againS (i + 1) ⟨by omega, fun j y h hy => by rcases Nat.lt_succ_iff_lt_or_eq.1 h with h | rfl; exact hall j y h hy; rw [hx] at hy; cases hy; exact ⟨err0 (by assumption), by rw [hrz]; assumption, fun j y hj hy => by subst hj; rw [show j + 1 - 1 = j from by omega] at hp; rw [hy] at hp; cases hp; omega, fun y hy => by have := List.any_eq_false.1 hc2 y hy; simpa using this⟩⟩ (by show l.length - (i + 1) < l.length - i; omega) ⟨rfl, rfl, rfl, rfl, trivial⟩ (fun a => by simp -failIfUnchanged <;> omega)))
        | (
            first | refine pn_condD rfl (fun hc2 => ?_) (fun hc2 => ?_) | refine pn_condN rfl (fun hc2 => ?_) (fun hc2 => ?_) | refine pn_cond rfl (fun hc2 => ?_) (fun hc2 => ?_)
            · refine pn_seq ?_
              refine pn_plain [] rfl ?_
              refine TE_q rfl rfl (RD.assign rfl) rfl ?_
              refine TE_q rfl rfl (RD.assign rfl) rfl ?_
              refine TE_nil0 ?_
              refine pn_ret ?_
              exact pn_done (H1 := []) rfl rfl (.inr ⟨fun h => by obtain ⟨p1, p2, p3, p4⟩ := h.2 i x hx; first | exact absurd (show err (recOkB x) 120 = 0 by rw [p1]; rfl) (by assumption) | exact absurd (p2.trans hrz) (by assumption) | (have := p3 (i - 1) p (by omega) hp; omega) | (obtain ⟨y, hy, he⟩ := List.any_eq_true.1 hc2; rw [p4 y hy] at he; cases he), rfl, rfl⟩) (List.nil_sublist _) (by simp)
            · refine pn_skip ?_
              refine pn_plain [] rfl ?_
              refine TE_q rfl rfl (RD.addI rfl rfl (by omega) (by omega)) rfl ?_
              refine TE_q rfl rfl (RD.move rfl) rfl ?_
              refine TE_nil0 ?_
              (exact pn_againS (i + 1) ⟨by omega, fun j y h hy => by rcases Nat.lt_succ_iff_lt_or_eq.1 h with h | rfl; exact hall j y h hy; rw [hx] at hy; cases hy; exact ⟨err0 (by assumption), by rw [hrz]; assumption, fun j y hj hy => by subst hj; rw [show j + 1 - 1 = j from by omega] at hp; rw [hy] at hp; cases hp; omega, fun y hy => by have := List.any_eq_false.1 hc2 y hy; simpa using this⟩⟩ (by show l.length - (i + 1) < l.length - i; omega) ⟨rfl, rfl, rfl, rfl, trivial⟩ (fun a => by simp -failIfUnchanged <;> omega)))
    · refine pn_exit ?_
      refine pn_seq ?_
      have hq9 : ∃ z, l[0]? = some z := ⟨_, List.getElem?_eq_getElem (by omega)⟩; obtain ⟨z, hz⟩ := hq9; have hq9 := hb.at hz; obtain ⟨bz, offz, capz, hvz, hcapz, hcellz⟩ := hq9; have hrz := refL_0 hz
      refine pn_drawT [3] [] [0] [_] HX rfl rfl (by kernel_rfl) (by kernel_rfl) rfl rfl ?_
      refine TE_q rfl rfl (RD.move rfl) rfl ?_
      refine TE_q rfl rfl (RD.indexX (i := 0) Tryz.runUnderlying22 Tryz.sizeOf40 (congrArg some hvz) rfl rfl (by omega)) rfl ?_
      refine TE_q rfl rfl (RD.fieldAddr (o := offz + 0 * 52 + 18) Tryz.runUnderlying40 rfl rfl Tryz.sizeOf9 rfl) rfl ?_
      refine TE_q rfl rfl (RD.loadC Tryz.isAgg9 rfl (fun w hw => hcellz w (hw.sp (fun a => by simp -failIfUnchanged <;> omega)) 18 _ rfl)) rfl ?_
      refine TE_q rfl rfl (RD.move rfl) rfl ?_
      refine TE_call rfl rfl trivial Tryz.call42 rfl rfl rfl (fun w hs' => c_cloneR ((0, g) :: HX) v l w (hs'.hp.sp (fun a => by simp -failIfUnchanged <;> omega)) hb hlen) ?_
      rintro v56 H5 ⟨st, hbo, rfl, rfl⟩ hX1
      refine TE_q rfl rfl (RD.build rfl (bd_sib z.ref l st)) rfl ?_
      refine TE_box rfl rfl trivial rfl fun b58 hb58 => ?_
      refine TE_q rfl rfl (RD.assign rfl) rfl ?_
      refine TE_q rfl rfl (RD.assign rfl) rfl ?_
      refine TE_nil ?_
      refine pn_ret ?_
      rw [← hrz]; exact pn_doneS ((b58, .cells (Value.agg #[.string (refL l), bldVx l st]).cells 56 (0, 0)) :: bldMx 40 recC l st) rfl rfl (.inl ⟨b58, st, hbo, ⟨fun h => by rw [h] at hz; simp at hz, fun i x hx => hall i x (by have := (List.getElem?_eq_some_iff.1 hx).1; omega) hx⟩, rfl, rfl⟩) (fun a => by simp -failIfUnchanged <;> omega) (by intro e he; rcases List.mem_cons.1 he with rfl | he; exact .inl hb58; exact .inl (hX1 e he))

end Go.Proofs.YtaakjgmehbbgfaaGreatDoor
