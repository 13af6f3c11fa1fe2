import Derived.Test.YthagkkmbbncclaaDoorRc2
import Derived.Test.YthagkkmbbncclaaDoorMvF
namespace Go.Proofs.YthagkkmbbncclaaDoor
open Go Go.Mv
set_option maxRecDepth 8000
def encI (x : Int) : List Value := [.int .i64 x]
theorem encI_len (x : Int) : (encI x).length = 1 := rfl
/-- The first one that is not 0. -/
def orI : List Int → Int
  | [] => 0
  | x :: r => if x = 0 then orI r else x
theorem orI_skip : ∀ (l : List Int) (i : Nat) (x : Int), (∀ y ∈ l.take i, y = 0) → l[i]? = some x → x ≠ 0 → orI l = x
  | [], i, x, _, h, _ => by simp at h
  | y :: r, 0, x, _, h, hx => by
    simp only [List.getElem?_cons_zero, Option.some.injEq] at h
    subst h; simp [orI, hx]
  | y :: r, i + 1, x, h0, h, hx => by
    simp only [List.take_succ_cons, List.mem_cons, forall_eq_or_imp] at h0
    rw [List.getElem?_cons_succ] at h
    rw [orI, if_pos h0.1]; exact orI_skip r i x h0.2 h hx
theorem orI_none : ∀ l : List Int, (∀ y ∈ l, y = 0) → orI l = 0
  | [], _ => rfl
  | y :: r, h => by
    simp only [List.mem_cons, forall_eq_or_imp] at h
    rw [orI, if_pos h.1]; exact orI_none r h.2
theorem take_zero {l : List Int} {i : Nat} (hi : i < l.length) (h : ∀ y ∈ l.take i, y = 0) (hx : l[i] = 0) : ∀ y ∈ l.take (i + 1), y = 0 := fun y hy => by
  rw [List.take_succ_eq_append_getElem hi] at hy
  rcases List.mem_append.1 hy with hy | hy
  · exact h y hy
  · simp only [List.mem_cons, List.not_mem_nil, or_false] at hy; rw [hy]; exact hx

theorem c_isNaNu (x : Int) (w : World) : Calls Tryd.prog 79 #[.int .u64 x] w (Ret w [] fun v H1 => v = .bool false ∧ H1 = []) := by
  refine fn_enter (args := [_]) Tryd.func79 rfl Tryd.ntmps79 rfl (Hp.nil w) ?_
  refine pn_seq ?_
  refine pn_plain [] rfl ?_
  refine TE_q rfl rfl (RD.assign rfl) rfl ?_
  refine TE_nil0 ?_
  refine pn_seq ?_
  refine pn_plain [] rfl ?_
  refine TE_q rfl rfl (RD.move rfl) rfl ?_
  refine TE_q rfl rfl (RD.move rfl) rfl ?_
  refine TE_q rfl rfl (RD.as (v := .bool false) (RD.neq rfl rfl) (by simp)) rfl ?_
  refine TE_q rfl rfl (RD.assign rfl) rfl ?_
  refine TE_nil0 ?_
  refine pn_ret ?_
  exact pn_done rfl rfl ⟨rfl, rfl⟩ (List.nil_sublist _) (by simp)

theorem c_cmpU (x y : Int) (w : World) : Calls Tryd.prog 54 #[.int .u64 x, .int .u64 y] w (Ret w [] fun v H1 => v = .int .i64 (Lib.compareInt x y) ∧ H1 = []) := by
  refine fn_enter (args := [_, _]) Tryd.func54 rfl Tryd.ntmps54 rfl (Hp.nil w) ?_
  refine pn_seq ?_
  refine pn_plain [] rfl ?_
  refine TE_q rfl rfl (RD.assign rfl) rfl ?_
  refine TE_nil0 ?_
  refine pn_seq ?_
  refine pn_plain [] rfl ?_
  refine TE_q rfl rfl (RD.move rfl) rfl ?_
  refine TE_call rfl rfl trivial Tryd.call79 rfl rfl rfl (fun w hs' => c_isNaNu x w) ?_
  rintro v8 H1 ⟨rfl, rfl⟩ -
  refine TE_q rfl rfl (RD.assign rfl) rfl ?_
  refine TE_nil0 ?_
  refine pn_seq ?_
  refine pn_plain [] rfl ?_
  refine TE_q rfl rfl (RD.move rfl) rfl ?_
  refine TE_call rfl rfl trivial Tryd.call79 rfl rfl rfl (fun w hs' => c_isNaNu y w) ?_
  rintro v10 H1 ⟨rfl, rfl⟩ -
  refine TE_q rfl rfl (RD.assign rfl) rfl ?_
  refine TE_nil0 ?_
  refine pn_seq ?_
  refine pn_seq ?_
  refine pn_plain [] rfl ?_
  refine TE_q rfl rfl (RD.move rfl) rfl ?_
  refine TE_nil0 ?_
  refine pn_condF rfl ?_
  refine pn_skip ?_
  refine pn_seq ?_
  refine pn_seq ?_
  refine pn_plain [] rfl ?_
  refine TE_q rfl rfl (RD.move rfl) rfl ?_
  refine TE_nil0 ?_
  refine pn_condF rfl ?_
  refine pn_skip ?_
  refine pn_seq ?_
  refine pn_seq ?_
  refine pn_plain [] rfl ?_
  refine TE_q rfl rfl (RD.move rfl) rfl ?_
  refine TE_q rfl rfl (RD.move rfl) rfl ?_
  refine TE_q rfl rfl (RD.lss rfl rfl) rfl ?_
  refine TE_nil0 ?_
  first | refine pn_condD rfl (fun hc2 => ?_) (fun hc2 => ?_) | refine pn_condN rfl (fun hc2 => ?_) (fun hc2 => ?_) | refine pn_cond rfl (fun hc2 => ?_) (fun hc2 => ?_)
  · refine pn_seq ?_
    refine pn_plain [] rfl ?_
    refine TE_q rfl rfl (RD.assign rfl) rfl ?_
    refine TE_nil0 ?_
    refine pn_ret ?_
    first | exact pn_done rfl rfl ⟨by show _ = Value.int .i64 (Lib.compareInt x y); unfold Lib.compareInt; rw [if_pos (by assumption)]; rfl, rfl⟩ (List.nil_sublist _) (by simp) | exact pn_done rfl rfl ⟨by show _ = Value.int .i64 (Lib.compareInt x y); unfold Lib.compareInt; rw [if_neg (by assumption), if_pos (by assumption)]; rfl, rfl⟩ (List.nil_sublist _) (by simp) | exact pn_done rfl rfl ⟨by show _ = Value.int .i64 (Lib.compareInt x y); unfold Lib.compareInt; rw [if_neg (by assumption), if_neg (by assumption)]; rfl, rfl⟩ (List.nil_sublist _) (by simp)
  · refine pn_skip ?_
    refine pn_seq ?_
    refine pn_seq ?_
    refine pn_plain [] rfl ?_
    refine TE_q rfl rfl (RD.move rfl) rfl ?_
    refine TE_q rfl rfl (RD.move rfl) rfl ?_
    refine TE_q rfl rfl (RD.gtr rfl rfl) rfl ?_
    refine TE_nil0 ?_
    first | refine pn_condD rfl (fun hc3 => ?_) (fun hc3 => ?_) | refine pn_condN rfl (fun hc3 => ?_) (fun hc3 => ?_) | refine pn_cond rfl (fun hc3 => ?_) (fun hc3 => ?_)
    · refine pn_seq ?_
      refine pn_plain [] rfl ?_
      refine TE_q rfl rfl (RD.assign rfl) rfl ?_
      refine TE_nil0 ?_
      refine pn_ret ?_
      first | exact pn_done rfl rfl ⟨by show _ = Value.int .i64 (Lib.compareInt x y); unfold Lib.compareInt; rw [if_pos (by assumption)]; rfl, rfl⟩ (List.nil_sublist _) (by simp) | exact pn_done rfl rfl ⟨by show _ = Value.int .i64 (Lib.compareInt x y); unfold Lib.compareInt; rw [if_neg (by assumption), if_pos (by assumption)]; rfl, rfl⟩ (List.nil_sublist _) (by simp) | exact pn_done rfl rfl ⟨by show _ = Value.int .i64 (Lib.compareInt x y); unfold Lib.compareInt; rw [if_neg (by assumption), if_neg (by assumption)]; rfl, rfl⟩ (List.nil_sublist _) (by simp)
    · refine pn_skip ?_
      refine pn_seq ?_
      refine pn_plain [] rfl ?_
      refine TE_q rfl rfl (RD.assign rfl) rfl ?_
      refine TE_nil0 ?_
      refine pn_ret ?_
      first | exact pn_done rfl rfl ⟨by show _ = Value.int .i64 (Lib.compareInt x y); unfold Lib.compareInt; rw [if_pos (by assumption)]; rfl, rfl⟩ (List.nil_sublist _) (by simp) | exact pn_done rfl rfl ⟨by show _ = Value.int .i64 (Lib.compareInt x y); unfold Lib.compareInt; rw [if_neg (by assumption), if_pos (by assumption)]; rfl, rfl⟩ (List.nil_sublist _) (by simp) | exact pn_done rfl rfl ⟨by show _ = Value.int .i64 (Lib.compareInt x y); unfold Lib.compareInt; rw [if_neg (by assumption), if_neg (by assumption)]; rfl, rfl⟩ (List.nil_sublist _) (by simp)

theorem c_or (HX : Mem) (v : Value) (l : List Int) (w : World) (hb : Rdx 1 encI HX v l) (hlen : l.length ≤ 1000000) (hH : Hp HX w) : Calls Tryd.prog 53 #[v] w (Ret w [] fun x H1 => x = .int .i64 (orI l) ∧ H1 = []) := by
  refine fn_enter (args := [_]) Tryd.func53 rfl Tryd.ntmps53 rfl hH ?_
  refine pn_seq ?_
  refine pn_plain [] rfl ?_
  refine TE_q rfl rfl (RD.assign rfl) rfl ?_
  refine TE_nil0 ?_
  refine pn_seq ?_
  refine pn_plain [] rfl ?_
  refine TE_q rfl rfl (RD.assign rfl) rfl ?_
  refine TE_nil0 ?_
  refine pn_seq ?_
  refine pn_seq ?_
  refine pn_plain [1] rfl ?_
  refine TE_q rfl rfl (RD.move rfl) rfl ?_
  refine TE_q rfl rfl (RD.lenX Tryd.runUnderlying122 rfl hb) rfl ?_
  refine TE_q rfl rfl (RD.move rfl) rfl ?_
  refine TE_nil0 ?_
  refine pn_block ?_
  refine pn_loop (σ := Nat) (fun i => [(8, .int .i64 (i : Int)), (7, .int .i64 l.length), (6, v), (3, .int .i64 0)]) (fun _ => HX) (fun i => i ≤ l.length ∧ ∀ y ∈ l.take i, y = 0) (fun i => l.length - i) 0 ⟨Nat.zero_le _, by simp⟩ ⟨rfl, rfl, rfl, rfl, trivial⟩ (List.Sublist.refl _) ?_
  rintro i ⟨hi, hz⟩
  refine pn_seq ?_
  refine pn_plain [] rfl ?_
  refine TE_q rfl rfl (RD.lss rfl rfl) rfl ?_
  skip
  refine TE_nil0 ?_
  refine pn_seq ?_
  first | refine pn_condD rfl (fun hc0 => ?_) (fun hc0 => ?_) | refine pn_condN rfl (fun hc0 => ?_) (fun hc0 => ?_) | refine pn_cond rfl (fun hc0 => ?_) (fun hc0 => ?_)
  · refine pn_skip ?_
    refine pn_seq ?_
    refine pn_block ?_
    refine pn_seq ?_
    have hlt : i < l.length := (by omega); obtain ⟨b, off, cap, rfl, hcap, hcell⟩ := hb.at (List.getElem?_eq_getElem hlt)
    refine pn_plain [] rfl ?_
    refine TE_q rfl rfl (RD.indexX (i := i) Tryd.runUnderlying122 Tryd.sizeOf3 rfl rfl rfl hlt) rfl ?_
    refine TE_l rfl rfl trivial rfl (RD.loadC Tryd.isAgg3 rfl (fun w hw => hcell w (by rwa [List.append_nil] at hw) 0 _ rfl)) rfl ?_
    refine TE_q rfl rfl (RD.assign rfl) rfl ?_
    refine TE_nil0 ?_
    refine pn_seq ?_
    refine pn_plain [] rfl ?_
    refine TE_q rfl rfl (RD.move rfl) rfl ?_
    refine TE_q rfl rfl (RD.move rfl) rfl ?_
    refine TE_q rfl rfl (RD.neq rfl rfl) rfl ?_
    refine TE_nil0 ?_
    first | refine pn_condD rfl (fun hc1 => ?_) (fun hc1 => ?_) | refine pn_condN rfl (fun hc1 => ?_) (fun hc1 => ?_) | refine pn_cond rfl (fun hc1 => ?_) (fun hc1 => ?_)
    · refine pn_seq ?_
      refine pn_plain [] rfl ?_
      refine TE_q rfl rfl (RD.move rfl) rfl ?_
      refine TE_q rfl rfl (RD.assign rfl) rfl ?_
      refine TE_nil0 ?_
      refine pn_ret ?_
      exact pn_done rfl rfl ⟨by rw [orI_skip l i _ hz (List.getElem?_eq_getElem hlt) (by assumption)]; rfl, rfl⟩ (List.nil_sublist _) (by simp)
    · refine pn_skip ?_
      refine pn_plain [] rfl ?_
      refine TE_q rfl rfl (RD.addI rfl rfl (by omega) (by omega)) rfl ?_
      refine TE_q rfl rfl (RD.move rfl) rfl ?_
      refine TE_nil0 ?_
      (exact pn_again (i + 1) ⟨by omega, take_zero hlt hz (by assumption)⟩ (by show l.length - (i + 1) < l.length - i; omega) ⟨rfl, rfl, rfl, rfl, trivial⟩ (List.Sublist.refl _))
  · refine pn_exit ?_
    refine pn_seq ?_
    refine pn_plain [] rfl ?_
    refine TE_q rfl rfl (RD.move rfl) rfl ?_
    refine TE_q rfl rfl (RD.assign rfl) rfl ?_
    refine TE_nil0 ?_
    refine pn_ret ?_
    exact pn_done rfl rfl ⟨by rw [orI_none l (by rwa [List.take_of_length_le (by omega)] at hz)]; rfl, rfl⟩ (List.nil_sublist _) (by simp)

def dotCmp (s c s' c' : Int) : Int := orI [Lib.compareInt s s', Lib.compareInt c c']
def sumV (f : Nat → Int) : Nat → Int
  | 0 => 0
  | n + 1 => sumV f n + f n
theorem sumV_bd {f : Nat → Int} (h : ∀ i, 0 ≤ f i ∧ f i ≤ 4294967295) : ∀ n : Nat, 0 ≤ sumV f n ∧ sumV f n ≤ n * 4294967295
  | 0 => by simp [sumV]
  | n + 1 => by have := sumV_bd h n; have := h n; simp only [sumV]; omega
/-- How many of b's a lacks, at a site. -/
def lkV (a b : Nat → Int) (s : Nat) : Int := if b s > a s then b s - a s else 0
theorem lkV_bd {a b : Nat → Int} (ha : VecOk a) (hb : VecOk b) (i : Nat) : 0 ≤ lkV a b i ∧ lkV a b i ≤ 4294967295 := by
  have := ha i; have := hb i; unfold lkV; split <;> omega
theorem lk_step {a b : Nat → Int} (ha : VecOk a) (hb : VecOk b) {s : Nat} (hs : s < 16) : Value.int .u64 (IntKind.u64.wrap (sumV (lkV a b) s + IntKind.u64.wrap (IntKind.u32.wrap ((if b s > a s then b s else a s) - a s)))) = .int .u64 (sumV (lkV a b) (s + 1)) := by
  have h1 := sumV_bd (lkV_bd ha hb) s
  have h2 := lkV_bd ha hb s
  have e : (if b s > a s then b s else a s) - a s = lkV a b s := by unfold lkV; split <;> omega
  have h3 : (s : Int) * 4294967295 ≤ 15 * 4294967295 := by omega
  rw [e, u32_wrap, u64_wrap, u64_wrap, sumV, Int.emod_eq_of_lt (by omega) (by omega), Int.emod_eq_of_lt (a := lkV a b s) (by omega) (by omega), Int.emod_eq_of_lt (by omega) (by omega)]
def lacksV (a b : Nat → Int) : Int := sumV (lkV a b) 16
def farV (v : Nat → Int) : Int := sumV v 16
theorem lacks0 {v : Nat → Int} (h : VecOk v) : lacksV (fun _ => 0) v = farV v := by
  have : lkV (fun _ => 0) v = v := funext fun i => by have := h i; show (if v i > 0 then v i - 0 else 0) = v i; split <;> omega
  rw [lacksV, this]; rfl
def recCmp (x y : Rec) : Int := orI [Lib.compareInt (farV x.ctx) (farV y.ctx), dotCmp x.s x.c y.s y.c]

theorem c_cmpI (x y : Int) (w : World) : Calls Tryd.prog 80 #[.int .i64 x, .int .i64 y] w (Ret w [] fun v H1 => v = .int .i64 (Lib.compareInt x y) ∧ H1 = []) := Ret.same (Tryd.cmp_Compare_int x y w)

theorem c_dotCompare (s c s' c' : Int) (w : World) : Calls Tryd.prog 55 #[dotV s c, dotV s' c'] w (Ret w [] fun v H1 => v = .int .i64 (dotCmp s c s' c') ∧ H1 = []) := by
  refine fn_enter (args := [_, _]) Tryd.func55 rfl Tryd.ntmps55 rfl (Hp.nil w) ?_
  refine pn_seq ?_
  refine pn_plain [] rfl ?_
  refine TE_box rfl rfl trivial rfl fun b2 hb2 => ?_
  refine TE_box rfl rfl trivial rfl fun b3 hb3 => ?_
  refine TE_q rfl rfl (RD.assign rfl) rfl ?_
  refine TE_nil0 ?_
  refine pn_seq ?_
  refine pn_draw [1, 3, 6, 8] [] [0, 1] rfl (by kernel_rfl) (by kernel_rfl) rfl rfl ?_
  refine TE_q rfl rfl (RD.fieldAddr (o := 0) Tryd.runUnderlying23 rfl rfl Tryd.sizeOf3 rfl) rfl ?_
  refine TE_q rfl rfl (RD.load (i := 1) Tryd.isAgg3 rfl rfl rfl) rfl ?_
  refine TE_q rfl rfl (RD.fieldAddr (o := 0) Tryd.runUnderlying23 rfl rfl Tryd.sizeOf3 rfl) rfl ?_
  refine TE_q rfl rfl (RD.load (i := 0) Tryd.isAgg3 rfl rfl rfl) rfl ?_
  refine TE_call rfl rfl trivial Tryd.call80 rfl rfl rfl (fun w hs' => c_cmpI s s' w) ?_
  rintro v9 H4 ⟨rfl, rfl⟩ -
  refine TE_q rfl rfl (RD.fieldAddr (o := 1) Tryd.runUnderlying23 rfl rfl Tryd.sizeOf3 rfl) rfl ?_
  refine TE_q rfl rfl (RD.load (i := 1) Tryd.isAgg3 rfl rfl rfl) rfl ?_
  refine TE_q rfl rfl (RD.fieldAddr (o := 1) Tryd.runUnderlying23 rfl rfl Tryd.sizeOf3 rfl) rfl ?_
  refine TE_q rfl rfl (RD.load (i := 0) Tryd.isAgg3 rfl rfl rfl) rfl ?_
  refine TE_call rfl rfl trivial Tryd.call80 rfl rfl rfl (fun w hs' => c_cmpI c c' w) ?_
  rintro v14 H9 ⟨rfl, rfl⟩ -
  refine TE_buildSlice (cells := #[.int .i64 (Lib.compareInt s s'), .int .i64 (Lib.compareInt c c')]) rfl Tryd.runUnderlying122 Tryd.sizeOf3 Tryd.zeroValue3 rfl rfl rfl (by kernel_rfl) trivial rfl fun b15 hb15 => ?_
  refine TE_call rfl rfl trivial Tryd.call53 rfl rfl rfl (fun w hs' => c_or [_] _ [Lib.compareInt s s', Lib.compareInt c c'] w (Rdx.blk (i := 0) (tl := []) encI_len rfl rfl (Nat.le_of_ble_eq_true rfl)) (Nat.le_of_ble_eq_true rfl) hs'.hp.left) ?_
  rintro v16 H11 ⟨rfl, rfl⟩ -
  refine TE_q rfl rfl (RD.assign rfl) rfl ?_
  refine TE_nil ?_
  refine pn_ret ?_
  exact pn_done rfl rfl ⟨rfl, rfl⟩ (List.nil_sublist _) (by simp)

theorem c_vecLacks (a b : Nat → Int) (w : World) (ha : VecOk a) (hb : VecOk b) : Calls Tryd.prog 76 #[vecV a, vecV b] w (Ret w [] fun v H1 => v = .int .u64 (lacksV a b) ∧ H1 = []) := by
  refine fn_enter (args := [_, _]) Tryd.func76 rfl Tryd.ntmps76 rfl (Hp.nil w) ?_
  refine pn_seq ?_
  refine pn_plain [] rfl ?_
  refine TE_box rfl rfl trivial rfl fun b2 hb2 => ?_
  refine TE_box rfl rfl trivial rfl fun b3 hb3 => ?_
  refine TE_q rfl rfl (RD.assign rfl) rfl ?_
  refine TE_nil0 ?_
  refine pn_seq ?_
  refine pn_plain [] rfl ?_
  refine TE_q rfl rfl (RD.assign rfl) rfl ?_
  refine TE_nil0 ?_
  refine pn_seq ?_
  refine pn_seq ?_
  refine pn_plain [] rfl ?_
  refine TE_q rfl rfl (RD.move rfl) rfl ?_
  refine TE_nil0 ?_
  refine pn_block ?_
  refine pn_loop (σ := Nat) (fun s => [(7, .int .i64 (s : Int)), (5, .int .u64 (sumV (lkV a b) s)), (2, .pointer (some ⟨b2, 0, none⟩)), (3, .pointer (some ⟨b3, 0, none⟩))]) (fun _ => [(b3, .cells (vecV b).cells 26 (0, 0)), (b2, .cells (vecV a).cells 26 (0, 0))]) (fun s => s ≤ 16) (fun s => 16 - s) 0 (by decide) ⟨rfl, rfl, rfl, rfl, trivial⟩ (List.Sublist.refl _) ?_
  intro s hs
  refine pn_seq ?_
  refine pn_plain [] rfl ?_
  refine TE_q rfl rfl (RD.lss rfl rfl) rfl ?_
  refine TE_nil0 ?_
  refine pn_seq ?_
  first | refine pn_condD rfl (fun hc0 => ?_) (fun hc0 => ?_) | refine pn_condN rfl (fun hc0 => ?_) (fun hc0 => ?_) | refine pn_cond rfl (fun hc0 => ?_) (fun hc0 => ?_)
  · refine pn_skip ?_
    refine pn_seq ?_
    refine pn_block ?_
    refine pn_seq ?_
    refine pn_plain [] rfl ?_
    refine TE_q rfl rfl (RD.move rfl) rfl ?_
    refine TE_q rfl rfl (RD.assign rfl) rfl ?_
    refine TE_nil0 ?_
    refine pn_draw [3, 6, 7, 10, 12] [] [0, 1] rfl (by kernel_rfl) (by kernel_rfl) rfl rfl ?_
    refine TE_q rfl rfl (RD.move rfl) rfl ?_
    refine TE_q rfl rfl (RD.move rfl) rfl ?_
    refine TE_q rfl rfl (RD.indexAddrA Tryd.runUnderlying26 Tryd.sizeOf24 rfl rfl (by omega) (by omega)) rfl ?_
    refine TE_q rfl rfl (RD.load (i := 1) Tryd.isAgg24 rfl rfl (vec_get (by omega) (by omega))) rfl ?_
    refine TE_q rfl rfl (RD.move rfl) rfl ?_
    refine TE_q rfl rfl (RD.indexAddrA Tryd.runUnderlying26 Tryd.sizeOf24 rfl rfl (by omega) (by omega)) rfl ?_
    refine TE_q rfl rfl (RD.load (i := 0) Tryd.isAgg24 rfl rfl (vec_get (by omega) (by omega))) rfl ?_
    refine TE_q rfl rfl (RD.max2 rfl rfl) rfl ?_
    refine TE_q rfl rfl (RD.move rfl) rfl ?_
    refine TE_q rfl rfl (RD.indexAddrA Tryd.runUnderlying26 Tryd.sizeOf24 rfl rfl (by omega) (by omega)) rfl ?_
    refine TE_q rfl rfl (RD.load (i := 1) Tryd.isAgg24 rfl rfl (vec_get (by omega) (by omega))) rfl ?_
    refine TE_q rfl rfl (RD.sub rfl rfl) rfl ?_
    refine TE_q rfl rfl (RD.conv Tryd.runUnderlying24 Tryd.runUnderlying74 rfl) rfl ?_
    refine TE_q rfl rfl (RD.as (RD.add rfl rfl) (lk_step ha hb (by omega))) rfl ?_
    refine TE_q rfl rfl (RD.assign rfl) rfl ?_
    refine TE_nil ?_
    refine pn_plain [] rfl ?_
    refine TE_q rfl rfl (RD.addI rfl rfl (by omega) (by omega)) rfl ?_
    refine TE_q rfl rfl (RD.move rfl) rfl ?_
    refine TE_nil0 ?_
    (exact pn_again (s + 1) (by omega) (by show 16 - (s + 1) < 16 - s; omega) ⟨rfl, rfl, rfl, rfl, trivial⟩ (List.Sublist.refl _))
  · refine pn_exit ?_
    refine pn_seq ?_
    refine pn_plain [] rfl ?_
    refine TE_q rfl rfl (RD.move rfl) rfl ?_
    refine TE_q rfl rfl (RD.assign rfl) rfl ?_
    refine TE_nil0 ?_
    refine pn_ret ?_
    obtain rfl : s = 16 := (by omega); exact pn_done rfl rfl ⟨rfl, rfl⟩ (List.nil_sublist _) (by simp)

end Go.Proofs.YthagkkmbbncclaaDoor
