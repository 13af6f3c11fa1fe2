import Derived.Test.YtloljpefdecmhaaGreatDoorGal
namespace Go.Proofs.YtloljpefdecmhaaGreatDoor
open Go Go.Mv
set_option maxRecDepth 8000
def w8 (a b c d e f g h : UInt32) : Nat → UInt32 := gtf [a, b, c, d, e, f, g, h]
theorem bd_w8 (a b c d e f g h : UInt32) (w : World) : (Instr.build 107 #[(0, .int .u32 (a.toNat : Int)), (1, .int .u32 (b.toNat : Int)), (2, .int .u32 (c.toNat : Int)), (3, .int .u32 (d.toNat : Int)), (4, .int .u32 (e.toNat : Int)), (5, .int .u32 (f.toNat : Int)), (6, .int .u32 (g.toNat : Int)), (7, .int .u32 (h.toNat : Int))]).run Tryz.prog w = .ok (wfV 8 (w8 a b c d e f g h)) w := by
  simp [Instr.build, Tryz.zeroValue107, Tryz.runUnderlying107, Tryz.sizeOf106, Value.cells, Instr.fill]
  rfl
/-- Eight words of a state. -/
def s8f (s : S8) : Nat → UInt32 := gtf s.l
theorem gt_over {α : Type} [Inhabited α] {l : List α} {i : Nat} (h : l.length ≤ i) : gt l i = default := by
  simp [gt, List.getElem?_eq_none h]
theorem upd_gtf {α : Type} [Inhabited α] {l : List α} {y : α} {k : Nat} (hk : k = l.length) : upd (gtf l) k y = gtf (l ++ [y]) := by
  subst hk
  funext i
  by_cases h : i = l.length
  · subst h; rw [upd_same]; simp [gtf, gt]
  · rw [upd_other h]
    rcases Nat.lt_or_ge i l.length with h1 | h1
    · simp [gtf, gt, List.getElem?_append_left h1]
    · show gt l i = gt (l ++ [y]) i
      rw [gt_over h1, gt_over (by simp; omega)]
theorem ws_upd {x : List UInt8} {i : Nat} {y : UInt32} (h : y = shaNext x (shaWs x i) i) : (wfV 64 (upd (gtf (shaWs x i)) i y)).cells = (wfV 64 (gtf (shaWs x (i + 1)))).cells := by
  rw [upd_gtf (shaWs_len x i).symm, h]; rfl
def shaPairs (x : List UInt8) : List (Nat × UInt32) := (List.range 64).map fun i => (i, gt (shaWs x 64) i)
theorem shaPairs_len (x : List UInt8) : (shaPairs x).length = 64 := by simp [shaPairs]
theorem shaPairs_at (x : List UInt8) {i : Nat} (h : i < 64) : (shaPairs x)[i]? = some (i, gt (shaWs x 64) i) := by simp [shaPairs, h]
theorem ws_at (x : List UInt8) {i : Nat} (h : i < 64) : gt (shaWs x 64) i = gt (shaWs x (i + 1)) i := by
  have := shaWs_take x (n := i + 1) (m := 64) (by omega)
  rw [← this, gt, gt, List.getD_eq_getElem?_getD, List.getD_eq_getElem?_getD, List.getElem?_take]; simp
theorem take_next {α : Type} {l : List α} {i : Nat} {y : α} (h : l[i]? = some y) : l.take (i + 1) = l.take i ++ [y] := by rw [List.take_add_one, h]; rfl
theorem pairs_next (x : List UInt8) {i : Nat} (h : i < 64) : (shaPairs x).take i ++ [(i, gt (shaWs x (i + 1)) i)] = (shaPairs x).take (i + 1) := by
  rw [take_next (shaPairs_at x h), ws_at x h]
theorem pairs_pre (x : List UInt8) {i : Nat} (h : i < 64) : (shaPairs x).take i ++ [(i, gt (shaWs x (i + 1)) i)] <+: shaPairs x := by
  rw [pairs_next x h]; exact List.take_prefix _ _

theorem c_rotl (x : UInt32) (n : Nat) (w : World) (h1 : 1 ≤ n) (h2 : n < 32) (hH : Hp [] w) : Calls Tryz.prog 135 #[.int .u32 (x.toNat : Int), .int .i64 (-(n : Int))] w (Ret w [] fun v H1 => v = .int .u32 ((rotr x n).toNat : Int) ∧ H1 = []) := by
  refine fn_enter (args := [_, _]) Tryz.func135 rfl Tryz.ntmps135 rfl hH ?_
  refine pn_seq ?_
  refine pn_plain [] rfl ?_
  refine TE_q rfl rfl (RD.assign rfl) rfl ?_
  refine TE_nil0 ?_
  refine pn_seq ?_
  refine pn_plain [1] rfl ?_
  refine TE_q rfl rfl (RD.move rfl) rfl ?_
  refine TE_q rfl rfl (RD.conv Tryz.runUnderlying3 Tryz.runUnderlying157 rfl) rfl ?_
  refine TE_q rfl rfl (RD.rotk h1 h2 rfl rfl) rfl ?_
  refine TE_q rfl rfl (RD.assign rfl) rfl ?_
  refine TE_nil0 ?_
  refine pn_seq ?_
  refine pn_plain [] rfl ?_
  refine TE_q rfl rfl (RD.move rfl) rfl ?_
  refine TE_q rfl rfl (RD.move rfl) rfl ?_
  refine TE_q rfl rfl (RD.shlW (a := x) (n := (32 - n : Nat)) rfl rfl (by omega)) rfl ?_
  refine TE_q rfl rfl (RD.move rfl) rfl ?_
  refine TE_q rfl rfl (RD.move rfl) rfl ?_
  refine TE_q rfl rfl (RD.as (v := .int .u64 (n : Int)) (RD.sub rfl rfl) (congrArg (Value.int .u64) (by rw [u64_wrap]; omega))) rfl ?_
  refine TE_q rfl rfl (RD.shrW (a := x) (n := n) rfl rfl (by omega)) rfl ?_
  refine TE_q rfl rfl (RD.orW (a := (x <<< UInt32.ofNat (32 - n : Nat))) (b := (x >>> UInt32.ofNat n)) rfl rfl) rfl ?_
  refine TE_q rfl rfl (RD.assign rfl) rfl ?_
  refine TE_nil0 ?_
  refine pn_ret ?_
  exact pn_doneS [] rfl rfl ⟨congrArg (fun a : UInt32 => Value.int .u32 (a.toNat : Int)) (UInt32.or_comm _ _), rfl⟩ (fun _ => Nat.zero_le _) (fun _ he => nomatch he)

theorem c_spread (l : List UInt8) (w : World) (hH : Hp [] w) : Calls Tryz.prog 134 #[bfV 64 (gtf l)] w (Ret w [] fun v H1 => ∃ b, v = .func (.func 154) #[] #[.pointer (some ⟨b, 0, none⟩)] ∧ H1 = [(b, .cells (bfV 64 (gtf l)).cells 172 (0, 0))]) := by
  refine fn_enter (args := [_]) Tryz.func134 rfl Tryz.ntmps134 rfl hH ?_
  refine pn_seq ?_
  refine pn_plain [] rfl ?_
  refine TE_boxC (bfV 64 (gtf l)).cells rfl rfl rfl trivial rfl fun b1 hb1 => ?_
  refine TE_q rfl rfl (RD.assign rfl) rfl ?_
  refine TE_nil0 ?_
  refine pn_seq ?_
  refine pn_plain [] rfl ?_
  refine TE_q rfl rfl (RD.makeFunc rfl rfl) rfl ?_
  refine TE_q rfl rfl (RD.assign rfl) rfl ?_
  refine TE_nil0 ?_
  refine pn_ret ?_
  exact pn_doneS [(b1, .cells (bfV 64 (gtf l)).cells 172 (0, 0))] rfl rfl ⟨b1, rfl, rfl⟩ (fun a => by simp -failIfUnchanged <;> omega) (ownC (.inl hb1) own0)

theorem it_spread (x1 : Nat) (l : List UInt8) : Iter Tryz.prog 154 [.pointer (some ⟨x1, 0, none⟩)] (fun (x : Nat × UInt32) => [.int .i64 (x.1 : Int), .int .u32 (x.2.toNat : Int)]) [(x1, .cells (bfV 64 (gtf l)).cells 172 (0, 0))] (shaPairs l) (fun _ HI' => HI' = []) := by
  intro σ yl HJ G S w s0 h0 hHp hy
  refine fn_enter (args := [_, _]) Tryz.func154 rfl Tryz.ntmps154 rfl hHp ?_
  refine pn_scope ?_
  refine pn_seq ?_
  refine pn_plainG [] ((x1, .cells (bfV 64 (gtf l)).cells 172 (0, 0)) :: (HJ s0)) rfl (fun a => by simp -failIfUnchanged <;> omega) ?_
  refine TE_allocC (wfV 64 (fun _ => 0)).cells rfl Tryz.zeroValue217 (by kernel_rfl) trivial rfl fun b3 hb3 => ?_
  refine TE_nil0 ?_
  refine pn_seq ?_
  refine pn_label ?_
  refine pn_seq ?_
  refine pn_plain [] rfl ?_
  refine TE_q rfl rfl (RD.move rfl) rfl ?_
  refine TE_nil0 ?_
  refine pn_block ?_
  refine pn_sp ((b3, .cells (wfV 64 (gtf (shaWs l 0))).cells 217 (0, 0)) :: (x1, .cells (bfV 64 (gtf l)).cells 172 (0, 0)) :: (HJ s0)) (fun a => by rw [show (wfV 64 (gtf (shaWs l 0))).cells = (wfV 64 (fun _ => 0)).cells from rfl]; exact Nat.le_refl _) ?_
  refine pn_loopS (σ := Nat × σ) (fun q => [(0, .func (.yield yl) #[] #[]), (1, .pointer (some ⟨x1, 0, none⟩)), (3, .pointer (some ⟨b3, 0, none⟩)), (9, .int .i64 (q.1 : Int))]) (fun q => ((b3, .cells (wfV 64 (gtf (shaWs l q.1))).cells 217 (0, 0)) :: (x1, .cells (bfV 64 (gtf l)).cells 172 (0, 0)) :: (HJ q.2))) (fun q => (q.1 ≤ 64) ∧ (G ((shaPairs l).take q.1) q.2) ∧ (∀ e ∈ HJ q.2, w.heap.size ≤ e.1 ∨ e.1 ∈ keys ([(x1, .cells (bfV 64 (gtf l)).cells 172 (0, 0))] ++ HJ s0))) (fun q => 64 - q.1) (0, s0) ⟨(by omega), h0, (fun e he => .inr (mem_keys.2 ⟨e, List.mem_append_right _ he, rfl⟩))⟩ ⟨rfl, rfl, rfl, rfl, trivial⟩ (fun a => by simp -failIfUnchanged <;> omega) ?_
  rintro ⟨i, s⟩ ⟨hi, hG, hXs⟩
  dsimp only at hi hG hXs ⊢
  refine pn_seq ?_
  refine pn_plain [] rfl ?_
  refine TE_q rfl rfl (RD.lss rfl rfl) rfl ?_
  refine TE_nil0 ?_
  refine pn_seq ?_
  refine pn_condD rfl (fun hc1 => ?_) (fun hc1 => ?_)
  · refine pn_skip ?_
    refine pn_seq ?_
    refine pn_block ?_
    refine pn_seq ?_
    refine pn_plain [] rfl ?_
    refine TE_q rfl rfl (RD.move rfl) rfl ?_
    refine TE_q rfl rfl (RD.assign rfl) rfl ?_
    refine TE_nil0 ?_
    refine pn_seq ?_
    refine pn_seq ?_
    refine pn_plain [] rfl ?_
    refine TE_q rfl rfl (RD.move rfl) rfl ?_
    refine TE_q rfl rfl (RD.lss rfl rfl) rfl ?_
    refine TE_nil0 ?_
    refine pn_condD rfl (fun hc2 => ?_) (fun hc2 => ?_)
    · refine pn_drawG [4, 5, 11, 12, 19, 20, 27, 28] [(b3, .cells (wfV 64 (gtf (shaWs l i))).cells 217 (0, 0))] ((x1, .cells (bfV 64 (gtf l)).cells 172 (0, 0)) :: (HJ s)) rfl rfl (by kernel_rfl) (fun a => by simp -failIfUnchanged <;> omega) ?_
      refine TE_q rfl rfl (RD.move rfl) rfl ?_
      refine TE_q rfl rfl (RD.move rfl) rfl ?_
      refine TE_q rfl rfl (RD.mulI rfl rfl (by omega) (by omega)) rfl ?_
      refine TE_q rfl rfl (RD.indexAddrA Tryz.runUnderlying172 Tryz.sizeOf5 rfl rfl (by omega) (by omega)) rfl ?_
      refine TE_q rfl rfl (RD.load (i := 0) (v := .int .u8 (((gtf l) (4 * i)).toNat : Int)) Tryz.isAgg5 rfl rfl (bf_get (4 * i) (by omega) (by omega))) rfl ?_
      refine TE_q rfl rfl (RD.widW (c := ((gtf l) (4 * i))) Tryz.runUnderlying5 Tryz.runUnderlying106 rfl) rfl ?_
      refine TE_q rfl rfl (RD.shlW (a := (((gtf l) (4 * i))).toUInt32) (n := 24) rfl rfl (by decide)) rfl ?_
      refine TE_q rfl rfl (RD.move rfl) rfl ?_
      refine TE_q rfl rfl (RD.mulI rfl rfl (by omega) (by omega)) rfl ?_
      refine TE_q rfl rfl (RD.addI rfl rfl (by omega) (by omega)) rfl ?_
      refine TE_q rfl rfl (RD.indexAddrA Tryz.runUnderlying172 Tryz.sizeOf5 rfl rfl (by omega) (by omega)) rfl ?_
      refine TE_q rfl rfl (RD.load (i := 0) (v := .int .u8 (((gtf l) ((4 * i) + 1)).toNat : Int)) Tryz.isAgg5 rfl rfl (bf_get ((4 * i) + 1) (by omega) (by omega))) rfl ?_
      refine TE_q rfl rfl (RD.widW (c := ((gtf l) ((4 * i) + 1))) Tryz.runUnderlying5 Tryz.runUnderlying106 rfl) rfl ?_
      refine TE_q rfl rfl (RD.shlW (a := (((gtf l) ((4 * i) + 1))).toUInt32) (n := 16) rfl rfl (by decide)) rfl ?_
      refine TE_q rfl rfl (RD.orW (a := ((((gtf l) (4 * i))).toUInt32 <<< UInt32.ofNat 24)) (b := ((((gtf l) ((4 * i) + 1))).toUInt32 <<< UInt32.ofNat 16)) rfl rfl) rfl ?_
      refine TE_q rfl rfl (RD.move rfl) rfl ?_
      refine TE_q rfl rfl (RD.mulI rfl rfl (by omega) (by omega)) rfl ?_
      refine TE_q rfl rfl (RD.addI rfl rfl (by omega) (by omega)) rfl ?_
      refine TE_q rfl rfl (RD.indexAddrA Tryz.runUnderlying172 Tryz.sizeOf5 rfl rfl (by omega) (by omega)) rfl ?_
      refine TE_q rfl rfl (RD.load (i := 0) (v := .int .u8 (((gtf l) ((4 * i) + 2)).toNat : Int)) Tryz.isAgg5 rfl rfl (bf_get ((4 * i) + 2) (by omega) (by omega))) rfl ?_
      refine TE_q rfl rfl (RD.widW (c := ((gtf l) ((4 * i) + 2))) Tryz.runUnderlying5 Tryz.runUnderlying106 rfl) rfl ?_
      refine TE_q rfl rfl (RD.shlW (a := (((gtf l) ((4 * i) + 2))).toUInt32) (n := 8) rfl rfl (by decide)) rfl ?_
      refine TE_q rfl rfl (RD.orW (a := (((((gtf l) (4 * i))).toUInt32 <<< UInt32.ofNat 24) ||| ((((gtf l) ((4 * i) + 1))).toUInt32 <<< UInt32.ofNat 16))) (b := ((((gtf l) ((4 * i) + 2))).toUInt32 <<< UInt32.ofNat 8)) rfl rfl) rfl ?_
      refine TE_q rfl rfl (RD.move rfl) rfl ?_
      refine TE_q rfl rfl (RD.mulI rfl rfl (by omega) (by omega)) rfl ?_
      refine TE_q rfl rfl (RD.addI rfl rfl (by omega) (by omega)) rfl ?_
      refine TE_q rfl rfl (RD.indexAddrA Tryz.runUnderlying172 Tryz.sizeOf5 rfl rfl (by omega) (by omega)) rfl ?_
      refine TE_q rfl rfl (RD.load (i := 0) (v := .int .u8 (((gtf l) ((4 * i) + 3)).toNat : Int)) Tryz.isAgg5 rfl rfl (bf_get ((4 * i) + 3) (by omega) (by omega))) rfl ?_
      refine TE_q rfl rfl (RD.widW (c := ((gtf l) ((4 * i) + 3))) Tryz.runUnderlying5 Tryz.runUnderlying106 rfl) rfl ?_
      refine TE_q rfl rfl (RD.orW (a := ((((((gtf l) (4 * i))).toUInt32 <<< UInt32.ofNat 24) ||| ((((gtf l) ((4 * i) + 1))).toUInt32 <<< UInt32.ofNat 16)) ||| ((((gtf l) ((4 * i) + 2))).toUInt32 <<< UInt32.ofNat 8))) (b := (((gtf l) ((4 * i) + 3))).toUInt32) rfl rfl) rfl ?_
      refine TE_q rfl rfl (RD.indexAddrA Tryz.runUnderlying217 Tryz.sizeOf106 rfl rfl (by omega) (by omega)) rfl ?_
      refine TE_storeC 0 (wfV 64 (gtf (shaWs l i))).cells (wfV 64 (upd (gtf (shaWs l i)) i (((((((gtf l) (4 * i))).toUInt32 <<< UInt32.ofNat 24) ||| ((((gtf l) ((4 * i) + 1))).toUInt32 <<< UInt32.ofNat 16)) ||| ((((gtf l) ((4 * i) + 2))).toUInt32 <<< UInt32.ofNat 8)) ||| (((gtf l) ((4 * i) + 3))).toUInt32))).cells [(b3, .cells (wfV 64 (upd (gtf (shaWs l i)) i (((((((gtf l) (4 * i))).toUInt32 <<< UInt32.ofNat 24) ||| ((((gtf l) ((4 * i) + 1))).toUInt32 <<< UInt32.ofNat 16)) ||| ((((gtf l) ((4 * i) + 2))).toUInt32 <<< UInt32.ofNat 8)) ||| (((gtf l) ((4 * i) + 3))).toUInt32))).cells 217 (0, 0))] rfl Tryz.sizeOf106 trivial rfl rfl rfl rfl rfl (wf_lt i (by omega) (by omega)) (wf_put i (by omega) (((((((gtf l) (4 * i))).toUInt32 <<< UInt32.ofNat 24) ||| ((((gtf l) ((4 * i) + 1))).toUInt32 <<< UInt32.ofNat 16)) ||| ((((gtf l) ((4 * i) + 2))).toUInt32 <<< UInt32.ofNat 8)) ||| (((gtf l) ((4 * i) + 3))).toUInt32)) rfl (.inl hb3) ?_
      have he3 : (wfV 64 (upd (gtf (shaWs l i)) i (((((((gtf l) (4 * i))).toUInt32 <<< UInt32.ofNat 24) ||| ((((gtf l) ((4 * i) + 1))).toUInt32 <<< UInt32.ofNat 16)) ||| ((((gtf l) ((4 * i) + 2))).toUInt32 <<< UInt32.ofNat 8)) ||| (((gtf l) ((4 * i) + 3))).toUInt32))).cells = (wfV 64 (gtf (shaWs l (i + 1)))).cells := ws_upd (by rw [shaNext, if_pos (by omega)]; rfl)
      refine TE_sp [(b3, .cells (wfV 64 (gtf (shaWs l (i + 1)))).cells 217 (0, 0))] (fun a => by rw [he3]; exact Nat.le_refl _) ?_
      refine TE_nil ?_
      refine pn_seq ?_
      refine pn_plainG [] ((b3, .cells (wfV 64 (gtf (shaWs l (i + 1)))).cells 217 (0, 0)) :: (x1, .cells (bfV 64 (gtf l)).cells 172 (0, 0)) :: (HJ s)) rfl (fun a => by simp -failIfUnchanged <;> omega) ?_
      refine TE_q rfl rfl (RD.move rfl) rfl ?_
      refine TE_q rfl rfl (RD.move rfl) rfl ?_
      refine TE_q rfl rfl (RD.move rfl) rfl ?_
      refine TE_q rfl rfl (RD.indexAddrA Tryz.runUnderlying217 Tryz.sizeOf106 rfl rfl (by omega) (by omega)) rfl ?_
      refine TE_l rfl rfl trivial rfl (RD.load (i := 0) (v := .int .u32 (((gtf (shaWs l (i + 1))) i).toNat : Int)) Tryz.isAgg106 rfl rfl (wf_get i (by omega) (by omega))) rfl ?_
      refine TE_sp ([(b3, .cells (wfV 64 (gtf (shaWs l (i + 1)))).cells 217 (0, 0)), (x1, .cells (bfV 64 (gtf l)).cells 172 (0, 0))] ++ (HJ s)) (fun a => by simp -failIfUnchanged <;> omega) ?_
      refine TE_yieldT [(b3, .cells (wfV 64 (gtf (shaWs l (i + 1)))).cells 217 (0, 0)), (x1, .cells (bfV 64 (gtf l)).cells 172 (0, 0))] (HJ s) rfl rfl rfl trivial rfl rfl rfl hXs (fun W hW => hy ((shaPairs l).take i) (i, gt (shaWs l (i + 1)) i) s W hG (pairs_pre l (by omega)) hW.fr (hW.hp.sp (fun a => by simp -failIfUnchanged <;> omega))) ?_
      rintro v4 H5 ⟨s6, rfl, ⟨rfl, hG7⟩ | ⟨rfl, hS8⟩⟩ hX9
      · refine TE_sp ((b3, .cells (wfV 64 (gtf (shaWs l (i + 1)))).cells 217 (0, 0)) :: (x1, .cells (bfV 64 (gtf l)).cells 172 (0, 0)) :: (HJ s6)) (fun a => by simp -failIfUnchanged <;> omega) ?_
        refine TE_q rfl rfl (RD.as (v := .bool false) (RD.not rfl) rfl) rfl ?_
        refine TE_nil0 ?_
        refine pn_condF rfl ?_
        refine pn_skip ?_
        refine pn_plain [] rfl ?_
        refine TE_q rfl rfl (RD.addI rfl rfl (by omega) (by omega)) rfl ?_
        refine TE_q rfl rfl (RD.move rfl) rfl ?_
        refine TE_nil0 ?_
        exact pn_againS ((i + 1), s6) ⟨(by omega), (by rw [← pairs_next l (by omega)]; exact hG7), hX9⟩ (by dsimp only; omega) ⟨rfl, rfl, rfl, rfl, trivial⟩ (fun a => by simp -failIfUnchanged <;> omega)
      · refine TE_sp ((b3, .cells (wfV 64 (gtf (shaWs l (i + 1)))).cells 217 (0, 0)) :: (x1, .cells (bfV 64 (gtf l)).cells 172 (0, 0)) :: (HJ s6)) (fun a => by simp -failIfUnchanged <;> omega) ?_
        refine TE_q rfl rfl (RD.as (v := .bool true) (RD.not rfl) rfl) rfl ?_
        refine TE_nil0 ?_
        refine pn_condT rfl ?_
        refine pn_exit ?_
        exact pn_doneS (HJ s6) rfl rfl ⟨s6, [], rfl, .inr ⟨_, pairs_pre l (by omega), hS8, rfl⟩⟩ (fun a => by simp -failIfUnchanged <;> omega) hX9
    · refine pn_seq ?_
      refine pn_drawG [3, 7] [] ((b3, .cells (wfV 64 (gtf (shaWs l i))).cells 217 (0, 0)) :: (x1, .cells (bfV 64 (gtf l)).cells 172 (0, 0)) :: (HJ s)) rfl rfl (by kernel_rfl) (fun a => by simp -failIfUnchanged <;> omega) ?_
      refine TE_q rfl rfl (RD.move rfl) rfl ?_
      refine TE_q rfl rfl (RD.subI rfl rfl (by omega) (by omega)) rfl ?_
      refine TE_q rfl rfl (RD.indexAddrA Tryz.runUnderlying217 Tryz.sizeOf106 rfl rfl (by omega) (by omega)) rfl ?_
      refine TE_q rfl rfl (RD.load (i := 0) (v := .int .u32 (((gtf (shaWs l i)) (i - 15)).toNat : Int)) Tryz.isAgg106 rfl rfl (wf_get (i - 15) (by omega) (by omega))) rfl ?_
      refine TE_q rfl rfl (RD.move rfl) rfl ?_
      refine TE_q rfl rfl (RD.subI rfl rfl (by omega) (by omega)) rfl ?_
      refine TE_q rfl rfl (RD.indexAddrA Tryz.runUnderlying217 Tryz.sizeOf106 rfl rfl (by omega) (by omega)) rfl ?_
      refine TE_q rfl rfl (RD.load (i := 0) (v := .int .u32 (((gtf (shaWs l i)) (i - 2)).toNat : Int)) Tryz.isAgg106 rfl rfl (wf_get (i - 2) (by omega) (by omega))) rfl ?_
      refine TE_q rfl rfl (RD.assign rfl) rfl ?_
      refine TE_q rfl rfl (RD.assign rfl) rfl ?_
      refine TE_nil ?_
      refine pn_seq ?_
      refine pn_plainG [] ((b3, .cells (wfV 64 (gtf (shaWs l i))).cells 217 (0, 0)) :: (x1, .cells (bfV 64 (gtf l)).cells 172 (0, 0)) :: (HJ s)) rfl (fun a => by simp -failIfUnchanged <;> omega) ?_
      refine TE_q rfl rfl (RD.move rfl) rfl ?_
      refine TE_callG _ [] rfl rfl trivial Tryz.call135 rfl rfl rfl (fun w hw => c_rotl ((gtf (shaWs l i)) (i - 15)) 7 w (by decide) (by decide) (hw.sp (fun a => by simp -failIfUnchanged <;> omega))) (fun a => by simp -failIfUnchanged <;> omega) ?_
      rintro v10 H11 ⟨rfl, rfl⟩ -
      refine TE_q rfl rfl (RD.move rfl) rfl ?_
      refine TE_callG _ [] rfl rfl trivial Tryz.call135 rfl rfl rfl (fun w hw => c_rotl ((gtf (shaWs l i)) (i - 15)) 18 w (by decide) (by decide) (hw.sp (fun a => by simp -failIfUnchanged <;> omega))) (fun a => by simp -failIfUnchanged <;> omega) ?_
      rintro v12 H13 ⟨rfl, rfl⟩ -
      refine TE_q rfl rfl (RD.xorW (a := (rotr ((gtf (shaWs l i)) (i - 15)) 7)) (b := (rotr ((gtf (shaWs l i)) (i - 15)) 18)) rfl rfl) rfl ?_
      refine TE_q rfl rfl (RD.move rfl) rfl ?_
      refine TE_q rfl rfl (RD.shrW (a := ((gtf (shaWs l i)) (i - 15))) (n := 3) rfl rfl (by decide)) rfl ?_
      refine TE_q rfl rfl (RD.xorW (a := ((rotr ((gtf (shaWs l i)) (i - 15)) 7) ^^^ (rotr ((gtf (shaWs l i)) (i - 15)) 18))) (b := (((gtf (shaWs l i)) (i - 15)) >>> UInt32.ofNat 3)) rfl rfl) rfl ?_
      refine TE_q rfl rfl (RD.assign rfl) rfl ?_
      refine TE_nil0 ?_
      refine pn_seq ?_
      refine pn_plain [] rfl ?_
      refine TE_q rfl rfl (RD.move rfl) rfl ?_
      refine TE_callG _ [] rfl rfl trivial Tryz.call135 rfl rfl rfl (fun w hw => c_rotl ((gtf (shaWs l i)) (i - 2)) 17 w (by decide) (by decide) (hw.sp (fun a => by simp -failIfUnchanged <;> omega))) (fun a => by simp -failIfUnchanged <;> omega) ?_
      rintro v14 H15 ⟨rfl, rfl⟩ -
      refine TE_q rfl rfl (RD.move rfl) rfl ?_
      refine TE_callG _ [] rfl rfl trivial Tryz.call135 rfl rfl rfl (fun w hw => c_rotl ((gtf (shaWs l i)) (i - 2)) 19 w (by decide) (by decide) (hw.sp (fun a => by simp -failIfUnchanged <;> omega))) (fun a => by simp -failIfUnchanged <;> omega) ?_
      rintro v16 H17 ⟨rfl, rfl⟩ -
      refine TE_q rfl rfl (RD.xorW (a := (rotr ((gtf (shaWs l i)) (i - 2)) 17)) (b := (rotr ((gtf (shaWs l i)) (i - 2)) 19)) rfl rfl) rfl ?_
      refine TE_q rfl rfl (RD.move rfl) rfl ?_
      refine TE_q rfl rfl (RD.shrW (a := ((gtf (shaWs l i)) (i - 2))) (n := 10) rfl rfl (by decide)) rfl ?_
      refine TE_q rfl rfl (RD.xorW (a := ((rotr ((gtf (shaWs l i)) (i - 2)) 17) ^^^ (rotr ((gtf (shaWs l i)) (i - 2)) 19))) (b := (((gtf (shaWs l i)) (i - 2)) >>> UInt32.ofNat 10)) rfl rfl) rfl ?_
      refine TE_q rfl rfl (RD.assign rfl) rfl ?_
      refine TE_nil0 ?_
      refine pn_drawLG [] [(b3, .cells (wfV 64 (gtf (shaWs l i))).cells 217 (0, 0))] ((x1, .cells (bfV 64 (gtf l)).cells 172 (0, 0)) :: (HJ s)) ((.op 0 (.op 1 (.op 2 (.op 3 (.op 5 (.op 7 (.op 8 (.op 9 (.op 12 (.fork (.op 4 (.op 6 (.op 10 (.op 11 (.op 13 (.op 14 (.op 15 .nil))))))) (.op 10 (.op 4 (.op 6 (.op 11 (.op 13 (.op 14 (.op 15 .nil)))))))))))))))))) rfl (by kernel_rfl) (by kernel_rfl) (fun a => by simp -failIfUnchanged <;> omega) ?_
      refine TE_q rfl rfl (RD.move rfl) rfl ?_
      refine TE_q rfl rfl (RD.move rfl) rfl ?_
      refine TE_q rfl rfl (RD.subI rfl rfl (by omega) (by omega)) rfl ?_
      refine TE_q rfl rfl (RD.indexAddrA Tryz.runUnderlying217 Tryz.sizeOf106 rfl rfl (by omega) (by omega)) rfl ?_
      refine TE_q rfl rfl (RD.move rfl) rfl ?_
      refine TE_q rfl rfl (RD.move rfl) rfl ?_
      refine TE_q rfl rfl (RD.subI rfl rfl (by omega) (by omega)) rfl ?_
      refine TE_q rfl rfl (RD.indexAddrA Tryz.runUnderlying217 Tryz.sizeOf106 rfl rfl (by omega) (by omega)) rfl ?_
      refine TE_q rfl rfl (RD.move rfl) rfl ?_
      refine TE_fork ?_ ?_
      · refine TE_l rfl rfl trivial rfl (RD.load (i := 0) (v := .int .u32 (((gtf (shaWs l i)) (i - 16)).toNat : Int)) Tryz.isAgg106 rfl rfl (wf_get (i - 16) (by omega) (by omega))) rfl ?_
        refine TE_q rfl rfl (RD.addW (a := ((gtf (shaWs l i)) (i - 16))) (b := (((rotr ((gtf (shaWs l i)) (i - 15)) 7) ^^^ (rotr ((gtf (shaWs l i)) (i - 15)) 18)) ^^^ (((gtf (shaWs l i)) (i - 15)) >>> UInt32.ofNat 3))) rfl rfl) rfl ?_
        refine TE_l rfl rfl trivial rfl (RD.load (i := 0) (v := .int .u32 (((gtf (shaWs l i)) (i - 7)).toNat : Int)) Tryz.isAgg106 rfl rfl (wf_get (i - 7) (by omega) (by omega))) rfl ?_
        refine TE_q rfl rfl (RD.addW (a := (((gtf (shaWs l i)) (i - 16)) + (((rotr ((gtf (shaWs l i)) (i - 15)) 7) ^^^ (rotr ((gtf (shaWs l i)) (i - 15)) 18)) ^^^ (((gtf (shaWs l i)) (i - 15)) >>> UInt32.ofNat 3)))) (b := ((gtf (shaWs l i)) (i - 7))) rfl rfl) rfl ?_
        refine TE_q rfl rfl (RD.addW (a := ((((gtf (shaWs l i)) (i - 16)) + (((rotr ((gtf (shaWs l i)) (i - 15)) 7) ^^^ (rotr ((gtf (shaWs l i)) (i - 15)) 18)) ^^^ (((gtf (shaWs l i)) (i - 15)) >>> UInt32.ofNat 3))) + ((gtf (shaWs l i)) (i - 7)))) (b := (((rotr ((gtf (shaWs l i)) (i - 2)) 17) ^^^ (rotr ((gtf (shaWs l i)) (i - 2)) 19)) ^^^ (((gtf (shaWs l i)) (i - 2)) >>> UInt32.ofNat 10))) rfl rfl) rfl ?_
        refine TE_q rfl rfl (RD.indexAddrA Tryz.runUnderlying217 Tryz.sizeOf106 rfl rfl (by omega) (by omega)) rfl ?_
        refine TE_storeC 0 (wfV 64 (gtf (shaWs l i))).cells (wfV 64 (upd (gtf (shaWs l i)) i (((((gtf (shaWs l i)) (i - 16)) + (((rotr ((gtf (shaWs l i)) (i - 15)) 7) ^^^ (rotr ((gtf (shaWs l i)) (i - 15)) 18)) ^^^ (((gtf (shaWs l i)) (i - 15)) >>> UInt32.ofNat 3))) + ((gtf (shaWs l i)) (i - 7))) + (((rotr ((gtf (shaWs l i)) (i - 2)) 17) ^^^ (rotr ((gtf (shaWs l i)) (i - 2)) 19)) ^^^ (((gtf (shaWs l i)) (i - 2)) >>> UInt32.ofNat 10))))).cells [(b3, .cells (wfV 64 (upd (gtf (shaWs l i)) i (((((gtf (shaWs l i)) (i - 16)) + (((rotr ((gtf (shaWs l i)) (i - 15)) 7) ^^^ (rotr ((gtf (shaWs l i)) (i - 15)) 18)) ^^^ (((gtf (shaWs l i)) (i - 15)) >>> UInt32.ofNat 3))) + ((gtf (shaWs l i)) (i - 7))) + (((rotr ((gtf (shaWs l i)) (i - 2)) 17) ^^^ (rotr ((gtf (shaWs l i)) (i - 2)) 19)) ^^^ (((gtf (shaWs l i)) (i - 2)) >>> UInt32.ofNat 10))))).cells 217 (0, 0))] rfl Tryz.sizeOf106 trivial rfl rfl rfl rfl rfl (wf_lt i (by omega) (by omega)) (wf_put i (by omega) (((((gtf (shaWs l i)) (i - 16)) + (((rotr ((gtf (shaWs l i)) (i - 15)) 7) ^^^ (rotr ((gtf (shaWs l i)) (i - 15)) 18)) ^^^ (((gtf (shaWs l i)) (i - 15)) >>> UInt32.ofNat 3))) + ((gtf (shaWs l i)) (i - 7))) + (((rotr ((gtf (shaWs l i)) (i - 2)) 17) ^^^ (rotr ((gtf (shaWs l i)) (i - 2)) 19)) ^^^ (((gtf (shaWs l i)) (i - 2)) >>> UInt32.ofNat 10)))) rfl (.inl hb3) ?_
        have he18 : (wfV 64 (upd (gtf (shaWs l i)) i (((((gtf (shaWs l i)) (i - 16)) + (((rotr ((gtf (shaWs l i)) (i - 15)) 7) ^^^ (rotr ((gtf (shaWs l i)) (i - 15)) 18)) ^^^ (((gtf (shaWs l i)) (i - 15)) >>> UInt32.ofNat 3))) + ((gtf (shaWs l i)) (i - 7))) + (((rotr ((gtf (shaWs l i)) (i - 2)) 17) ^^^ (rotr ((gtf (shaWs l i)) (i - 2)) 19)) ^^^ (((gtf (shaWs l i)) (i - 2)) >>> UInt32.ofNat 10))))).cells = (wfV 64 (gtf (shaWs l (i + 1)))).cells := ws_upd (by rw [shaNext, if_neg (by omega)]; rfl)
        refine TE_sp [(b3, .cells (wfV 64 (gtf (shaWs l (i + 1)))).cells 217 (0, 0))] (fun a => by rw [he18]; exact Nat.le_refl _) ?_
        refine TE_nil ?_
        refine pn_seq ?_
        refine pn_plainG [] ((b3, .cells (wfV 64 (gtf (shaWs l (i + 1)))).cells 217 (0, 0)) :: (x1, .cells (bfV 64 (gtf l)).cells 172 (0, 0)) :: (HJ s)) rfl (fun a => by simp -failIfUnchanged <;> omega) ?_
        refine TE_q rfl rfl (RD.move rfl) rfl ?_
        refine TE_q rfl rfl (RD.move rfl) rfl ?_
        refine TE_q rfl rfl (RD.move rfl) rfl ?_
        refine TE_q rfl rfl (RD.indexAddrA Tryz.runUnderlying217 Tryz.sizeOf106 rfl rfl (by omega) (by omega)) rfl ?_
        refine TE_l rfl rfl trivial rfl (RD.load (i := 0) (v := .int .u32 (((gtf (shaWs l (i + 1))) i).toNat : Int)) Tryz.isAgg106 rfl rfl (wf_get i (by omega) (by omega))) rfl ?_
        refine TE_sp ([(b3, .cells (wfV 64 (gtf (shaWs l (i + 1)))).cells 217 (0, 0)), (x1, .cells (bfV 64 (gtf l)).cells 172 (0, 0))] ++ (HJ s)) (fun a => by simp -failIfUnchanged <;> omega) ?_
        refine TE_yieldT [(b3, .cells (wfV 64 (gtf (shaWs l (i + 1)))).cells 217 (0, 0)), (x1, .cells (bfV 64 (gtf l)).cells 172 (0, 0))] (HJ s) rfl rfl rfl trivial rfl rfl rfl hXs (fun W hW => hy ((shaPairs l).take i) (i, gt (shaWs l (i + 1)) i) s W hG (pairs_pre l (by omega)) hW.fr (hW.hp.sp (fun a => by simp -failIfUnchanged <;> omega))) ?_
        rintro v19 H20 ⟨s21, rfl, ⟨rfl, hG22⟩ | ⟨rfl, hS23⟩⟩ hX24
        · refine TE_sp ((b3, .cells (wfV 64 (gtf (shaWs l (i + 1)))).cells 217 (0, 0)) :: (x1, .cells (bfV 64 (gtf l)).cells 172 (0, 0)) :: (HJ s21)) (fun a => by simp -failIfUnchanged <;> omega) ?_
          refine TE_q rfl rfl (RD.as (v := .bool false) (RD.not rfl) rfl) rfl ?_
          refine TE_nil0 ?_
          refine pn_condF rfl ?_
          refine pn_skip ?_
          refine pn_plain [] rfl ?_
          refine TE_q rfl rfl (RD.addI rfl rfl (by omega) (by omega)) rfl ?_
          refine TE_q rfl rfl (RD.move rfl) rfl ?_
          refine TE_nil0 ?_
          exact pn_againS ((i + 1), s21) ⟨(by omega), (by rw [← pairs_next l (by omega)]; exact hG22), hX24⟩ (by dsimp only; omega) ⟨rfl, rfl, rfl, rfl, trivial⟩ (fun a => by simp -failIfUnchanged <;> omega)
        · refine TE_sp ((b3, .cells (wfV 64 (gtf (shaWs l (i + 1)))).cells 217 (0, 0)) :: (x1, .cells (bfV 64 (gtf l)).cells 172 (0, 0)) :: (HJ s21)) (fun a => by simp -failIfUnchanged <;> omega) ?_
          refine TE_q rfl rfl (RD.as (v := .bool true) (RD.not rfl) rfl) rfl ?_
          refine TE_nil0 ?_
          refine pn_condT rfl ?_
          refine pn_exit ?_
          exact pn_doneS (HJ s21) rfl rfl ⟨s21, [], rfl, .inr ⟨_, pairs_pre l (by omega), hS23, rfl⟩⟩ (fun a => by simp -failIfUnchanged <;> omega) hX24
      refine TE_l rfl rfl trivial rfl (RD.load (i := 0) (v := .int .u32 (((gtf (shaWs l i)) (i - 7)).toNat : Int)) Tryz.isAgg106 rfl rfl (wf_get (i - 7) (by omega) (by omega))) rfl ?_
      refine TE_l rfl rfl trivial rfl (RD.load (i := 0) (v := .int .u32 (((gtf (shaWs l i)) (i - 16)).toNat : Int)) Tryz.isAgg106 rfl rfl (wf_get (i - 16) (by omega) (by omega))) rfl ?_
      refine TE_q rfl rfl (RD.addW (a := ((gtf (shaWs l i)) (i - 16))) (b := (((rotr ((gtf (shaWs l i)) (i - 15)) 7) ^^^ (rotr ((gtf (shaWs l i)) (i - 15)) 18)) ^^^ (((gtf (shaWs l i)) (i - 15)) >>> UInt32.ofNat 3))) rfl rfl) rfl ?_
      refine TE_q rfl rfl (RD.addW (a := (((gtf (shaWs l i)) (i - 16)) + (((rotr ((gtf (shaWs l i)) (i - 15)) 7) ^^^ (rotr ((gtf (shaWs l i)) (i - 15)) 18)) ^^^ (((gtf (shaWs l i)) (i - 15)) >>> UInt32.ofNat 3)))) (b := ((gtf (shaWs l i)) (i - 7))) rfl rfl) rfl ?_
      refine TE_q rfl rfl (RD.addW (a := ((((gtf (shaWs l i)) (i - 16)) + (((rotr ((gtf (shaWs l i)) (i - 15)) 7) ^^^ (rotr ((gtf (shaWs l i)) (i - 15)) 18)) ^^^ (((gtf (shaWs l i)) (i - 15)) >>> UInt32.ofNat 3))) + ((gtf (shaWs l i)) (i - 7)))) (b := (((rotr ((gtf (shaWs l i)) (i - 2)) 17) ^^^ (rotr ((gtf (shaWs l i)) (i - 2)) 19)) ^^^ (((gtf (shaWs l i)) (i - 2)) >>> UInt32.ofNat 10))) rfl rfl) rfl ?_
      refine TE_q rfl rfl (RD.indexAddrA Tryz.runUnderlying217 Tryz.sizeOf106 rfl rfl (by omega) (by omega)) rfl ?_
      refine TE_storeC 0 (wfV 64 (gtf (shaWs l i))).cells (wfV 64 (upd (gtf (shaWs l i)) i (((((gtf (shaWs l i)) (i - 16)) + (((rotr ((gtf (shaWs l i)) (i - 15)) 7) ^^^ (rotr ((gtf (shaWs l i)) (i - 15)) 18)) ^^^ (((gtf (shaWs l i)) (i - 15)) >>> UInt32.ofNat 3))) + ((gtf (shaWs l i)) (i - 7))) + (((rotr ((gtf (shaWs l i)) (i - 2)) 17) ^^^ (rotr ((gtf (shaWs l i)) (i - 2)) 19)) ^^^ (((gtf (shaWs l i)) (i - 2)) >>> UInt32.ofNat 10))))).cells [(b3, .cells (wfV 64 (upd (gtf (shaWs l i)) i (((((gtf (shaWs l i)) (i - 16)) + (((rotr ((gtf (shaWs l i)) (i - 15)) 7) ^^^ (rotr ((gtf (shaWs l i)) (i - 15)) 18)) ^^^ (((gtf (shaWs l i)) (i - 15)) >>> UInt32.ofNat 3))) + ((gtf (shaWs l i)) (i - 7))) + (((rotr ((gtf (shaWs l i)) (i - 2)) 17) ^^^ (rotr ((gtf (shaWs l i)) (i - 2)) 19)) ^^^ (((gtf (shaWs l i)) (i - 2)) >>> UInt32.ofNat 10))))).cells 217 (0, 0))] rfl Tryz.sizeOf106 trivial rfl rfl rfl rfl rfl (wf_lt i (by omega) (by omega)) (wf_put i (by omega) (((((gtf (shaWs l i)) (i - 16)) + (((rotr ((gtf (shaWs l i)) (i - 15)) 7) ^^^ (rotr ((gtf (shaWs l i)) (i - 15)) 18)) ^^^ (((gtf (shaWs l i)) (i - 15)) >>> UInt32.ofNat 3))) + ((gtf (shaWs l i)) (i - 7))) + (((rotr ((gtf (shaWs l i)) (i - 2)) 17) ^^^ (rotr ((gtf (shaWs l i)) (i - 2)) 19)) ^^^ (((gtf (shaWs l i)) (i - 2)) >>> UInt32.ofNat 10)))) rfl (.inl hb3) ?_
      have he25 : (wfV 64 (upd (gtf (shaWs l i)) i (((((gtf (shaWs l i)) (i - 16)) + (((rotr ((gtf (shaWs l i)) (i - 15)) 7) ^^^ (rotr ((gtf (shaWs l i)) (i - 15)) 18)) ^^^ (((gtf (shaWs l i)) (i - 15)) >>> UInt32.ofNat 3))) + ((gtf (shaWs l i)) (i - 7))) + (((rotr ((gtf (shaWs l i)) (i - 2)) 17) ^^^ (rotr ((gtf (shaWs l i)) (i - 2)) 19)) ^^^ (((gtf (shaWs l i)) (i - 2)) >>> UInt32.ofNat 10))))).cells = (wfV 64 (gtf (shaWs l (i + 1)))).cells := ws_upd (by rw [shaNext, if_neg (by omega)]; rfl)
      refine TE_sp [(b3, .cells (wfV 64 (gtf (shaWs l (i + 1)))).cells 217 (0, 0))] (fun a => by rw [he25]; exact Nat.le_refl _) ?_
      refine TE_nil ?_
      refine pn_seq ?_
      refine pn_plainG [] ((b3, .cells (wfV 64 (gtf (shaWs l (i + 1)))).cells 217 (0, 0)) :: (x1, .cells (bfV 64 (gtf l)).cells 172 (0, 0)) :: (HJ s)) rfl (fun a => by simp -failIfUnchanged <;> omega) ?_
      refine TE_q rfl rfl (RD.move rfl) rfl ?_
      refine TE_q rfl rfl (RD.move rfl) rfl ?_
      refine TE_q rfl rfl (RD.move rfl) rfl ?_
      refine TE_q rfl rfl (RD.indexAddrA Tryz.runUnderlying217 Tryz.sizeOf106 rfl rfl (by omega) (by omega)) rfl ?_
      refine TE_l rfl rfl trivial rfl (RD.load (i := 0) (v := .int .u32 (((gtf (shaWs l (i + 1))) i).toNat : Int)) Tryz.isAgg106 rfl rfl (wf_get i (by omega) (by omega))) rfl ?_
      refine TE_sp ([(b3, .cells (wfV 64 (gtf (shaWs l (i + 1)))).cells 217 (0, 0)), (x1, .cells (bfV 64 (gtf l)).cells 172 (0, 0))] ++ (HJ s)) (fun a => by simp -failIfUnchanged <;> omega) ?_
      refine TE_yieldT [(b3, .cells (wfV 64 (gtf (shaWs l (i + 1)))).cells 217 (0, 0)), (x1, .cells (bfV 64 (gtf l)).cells 172 (0, 0))] (HJ s) rfl rfl rfl trivial rfl rfl rfl hXs (fun W hW => hy ((shaPairs l).take i) (i, gt (shaWs l (i + 1)) i) s W hG (pairs_pre l (by omega)) hW.fr (hW.hp.sp (fun a => by simp -failIfUnchanged <;> omega))) ?_
      rintro v26 H27 ⟨s28, rfl, ⟨rfl, hG29⟩ | ⟨rfl, hS30⟩⟩ hX31
      · refine TE_sp ((b3, .cells (wfV 64 (gtf (shaWs l (i + 1)))).cells 217 (0, 0)) :: (x1, .cells (bfV 64 (gtf l)).cells 172 (0, 0)) :: (HJ s28)) (fun a => by simp -failIfUnchanged <;> omega) ?_
        refine TE_q rfl rfl (RD.as (v := .bool false) (RD.not rfl) rfl) rfl ?_
        refine TE_nil0 ?_
        refine pn_condF rfl ?_
        refine pn_skip ?_
        refine pn_plain [] rfl ?_
        refine TE_q rfl rfl (RD.addI rfl rfl (by omega) (by omega)) rfl ?_
        refine TE_q rfl rfl (RD.move rfl) rfl ?_
        refine TE_nil0 ?_
        exact pn_againS ((i + 1), s28) ⟨(by omega), (by rw [← pairs_next l (by omega)]; exact hG29), hX31⟩ (by dsimp only; omega) ⟨rfl, rfl, rfl, rfl, trivial⟩ (fun a => by simp -failIfUnchanged <;> omega)
      · refine TE_sp ((b3, .cells (wfV 64 (gtf (shaWs l (i + 1)))).cells 217 (0, 0)) :: (x1, .cells (bfV 64 (gtf l)).cells 172 (0, 0)) :: (HJ s28)) (fun a => by simp -failIfUnchanged <;> omega) ?_
        refine TE_q rfl rfl (RD.as (v := .bool true) (RD.not rfl) rfl) rfl ?_
        refine TE_nil0 ?_
        refine pn_condT rfl ?_
        refine pn_exit ?_
        exact pn_doneS (HJ s28) rfl rfl ⟨s28, [], rfl, .inr ⟨_, pairs_pre l (by omega), hS30, rfl⟩⟩ (fun a => by simp -failIfUnchanged <;> omega) hX31
  · refine pn_exit ?_
    obtain rfl : i = 64 := (by omega)
    rw [List.take_of_length_le (by rw [shaPairs_len]; omega)] at hG
    exact pn_doneS (HJ s) rfl rfl ⟨s, [], rfl, .inl ⟨hG, rfl⟩⟩ (fun a => by simp -failIfUnchanged <;> omega) hXs

end Go.Proofs.YtloljpefdecmhaaGreatDoor
