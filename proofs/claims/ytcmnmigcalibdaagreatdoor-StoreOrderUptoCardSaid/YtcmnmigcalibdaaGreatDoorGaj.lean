import Derived.Test.YtcmnmigcalibdaaGreatDoorGai
import Derived.Test.YtcmnmigcalibdaaGreatDoorSrt
import Derived.ProofKit
import Derived.OpenShut
import Derived.Deep.DeepHandedRow
import Derived.WideKeyArgs
import Derived.Lib.LaidTab
import Derived.SevenTiedAt
import Derived.ChangeSlices
namespace Go.Proofs.YtcmnmigcalibdaaGreatDoor
open Go.Proofs.Tryz
open Go Go.Mv
set_option maxRecDepth 8000
/-- What reading leaves: the value and no error, the source behind it; or an error. -/
def Reads {α : Type} (HX : Mem) (s : Nat) (enc : α → Value) (z : Value) (ys : List UInt8) (d : Dr α) (v : Value) (H1 : Mem) : Prop :=
  (∃ x r v', d = .ok x r ∧ v = .tuple #[enc x, .int .i64 0] ∧ H1 = srcM s v' HX ∧ Rdb HX v' r ∧ r.length ≤ ys.length) ∨
  (∃ e v' r, d = .err e ∧ e ≠ 0 ∧ v = .tuple #[z, .int .i64 e] ∧ H1 = srcM s v' HX ∧ Rdb HX v' r ∧ r.length ≤ ys.length)
abbrev NumS := Nat × Nat × Bool × Int
def numJ (b4 b5 b6 b7 : Nat) (x : NumS) : Mem := [(b7, .cells #[.bool x.2.2.1] 4 (0, 0)), (b6, .cells #[.int .i64 (x.2.1 : Int)] 3 (0, 0)), (b5, .cells #[.int .i64 x.2.2.2] 29 (0, 0)), (b4, .cells #[.int .u64 (x.1 : Int)] 128 (0, 0))]
/-- What is known while a number is read. -/
def numG (ys pre : List UInt8) (x : NumS) : Prop := x.2.1 = pre.length ∧ x.2.2.1 = false ∧ x.2.2.2 = 0 ∧ pre.length ≤ 9 ∧ x.1 < 128 ^ pre.length ∧ ∀ rest, ys = pre ++ rest → numR ys = decL rest pre.length x.1
def numT (ys : List UInt8) (c : Code) (pre : List UInt8) (x : NumS) : Prop :=
  (c = .ret ∧ x.1 = 0 ∧ x.2.2.2 = 11 ∧ numR ys = .form) ∨ (c = .exit 0 ∧ x.2.2.1 = true ∧ x.2.2.2 = 0 ∧ x.1 < 18446744073709551616 ∧ numR ys = .ok x.1 (ys.drop pre.length))
theorem numG0 (ys : List UInt8) : numG ys [] (0, 0, false, 0) := ⟨rfl, rfl, rfl, by decide, by decide, fun rest h => by rw [h]; rfl⟩
theorem numG_step {ys pre : List UInt8} {c : UInt8} {a m : Nat} {wh : Bool} {e : Int} (h : numG ys pre (a, m, wh, e)) (_ : (pre ++ [c]) <+: ys)
    (hf : ¬ ((m = 9 ∧ (c.toNat % 128 > 1 ∨ ¬ c.toNat < 128)) ∨ (c.toNat < 128 ∧ c.toNat % 128 = 0 ∧ 0 < m))) (hc : ¬ c.toNat < 128) : numG ys (pre ++ [c]) (a + c.toNat % 128 * 128 ^ m, m + 1, false, 0) := by
  obtain ⟨h1, h2, h3, h4, h5, h6⟩ := h
  dsimp only at h1 h2 h3 h5 h6
  subst h1
  refine ⟨by simp, rfl, rfl, by simp; omega, by simpa using acc_lt h5, fun rest hr => ?_⟩
  rw [h6 (c :: rest) (by rw [hr]; simp)]
  simp only [decL, if_neg hf, if_neg hc, List.length_append, List.length_cons, List.length_nil, Nat.zero_add]
theorem numT_form {ys pre : List UInt8} {c : UInt8} {a m : Nat} {wh wh' : Bool} {e : Int} (h : numG ys pre (a, m, wh, e)) (hpre : (pre ++ [c]) <+: ys)
    (hf : (m = 9 ∧ (c.toNat % 128 > 1 ∨ ¬ c.toNat < 128)) ∨ (c.toNat < 128 ∧ c.toNat % 128 = 0 ∧ 0 < m)) : numT ys .ret (pre ++ [c]) (0, m, wh', 11) := by
  obtain ⟨h1, h2, h3, h4, h5, h6⟩ := h
  dsimp only at h1 h2 h3 h5 h6
  subst h1
  obtain ⟨t, ht⟩ := hpre
  refine .inl ⟨rfl, rfl, rfl, ?_⟩
  rw [h6 (c :: t) (by rw [← ht]; simp)]
  simp only [decL, if_pos hf]
theorem numT_ok {ys pre : List UInt8} {c : UInt8} {a m : Nat} {wh : Bool} {e : Int} (h : numG ys pre (a, m, wh, e)) (hpre : (pre ++ [c]) <+: ys)
    (hf : ¬ ((m = 9 ∧ (c.toNat % 128 > 1 ∨ ¬ c.toNat < 128)) ∨ (c.toNat < 128 ∧ c.toNat % 128 = 0 ∧ 0 < m))) (hc : c.toNat < 128) : numT ys (.exit 0) (pre ++ [c]) (a + c.toNat % 128 * 128 ^ m, m + 1, true, 0) := by
  obtain ⟨h1, h2, h3, h4, h5, h6⟩ := h
  dsimp only at h1 h2 h3 h5 h6
  subst h1
  obtain ⟨t, ht⟩ := hpre
  have hn : numR ys = .ok (a + c.toNat % 128 * 128 ^ pre.length) t := by
    rw [h6 (c :: t) (by rw [← ht]; simp)]
    simp only [decL, if_neg hf, if_pos hc]
  refine .inr ⟨rfl, rfl, rfl, (numR_ok hn).2, ?_⟩
  rw [hn, ← ht, List.drop_left]
theorem num_short {ys : List UInt8} {x : NumS} (h : numG ys ys x) : numR ys = .short := by
  rw [h.2.2.2.2.2 [] (by simp)]; rfl

theorem num_end {HX : Mem} {s : Nat} {ys : List UInt8} {w : World} {a a' : Option Addr} {n c n' c' D b4 b5 b6 b7 x2 x3 x5 : Nat} {E : Env} {acc m : Nat} {wh : Bool} {ev : Int} {d : Dr Nat} (h4 : E.get 4 = some (.pointer (some ⟨b4, 0, none⟩))) (h5 : E.get 5 = some (.pointer (some ⟨b5, 0, none⟩))) (hD : w.heap.size ≤ D)
    (hres : Reads HX s (fun n : Nat => .int .u64 (n : Int)) (.int .u64 0) ys d (.tuple #[.int .u64 (acc : Int), .int .i64 ev]) (srcM s (if ev = 0 then .slice a' n' c' else .slice a n c) HX)) :
    PN ⟨60, [{ target := .collected D, args := #[] }, { target := .fn (.func 220) #[.pointer (some ⟨x3, 0, none⟩), .pointer (some ⟨x5, 0, none⟩), .pointer (some ⟨x2, 0, none⟩)], args := #[] }], w, keys (srcM s (.slice a n c) HX)⟩ (retP Tryz.prog Tryz.f161 (Ret w (keys (srcM s (.slice a n c) HX)) (Reads HX s (fun n : Nat => .int .u64 (n : Int)) (.int .u64 0) ys d))) E
      (numJ b4 b5 b6 b7 (acc, m, wh, ev) ++ (srcM s (.slice a' n' c') HX ++ ((D, .deferred (some [])) :: [(x5, .cells #[.slice a n c] 32 (0, 0)), (x3, .cells #[.pointer (some ⟨b5, 0, none⟩)] 270 (0, 0)), (x2, .cells #[.pointer (some ⟨s, 0, none⟩)] 85 (0, 0))]))) := by
  refine lv_ret (lv_mark (numJ b4 b5 b6 b7 (acc, m, wh, ev) ++ srcM s (.slice a' n' c') HX) [(x5, .cells #[.slice a n c] 32 (0, 0)), (x3, .cells #[.pointer (some ⟨b5, 0, none⟩)] 270 (0, 0)), (x2, .cells #[.pointer (some ⟨s, 0, none⟩)] 85 (0, 0))] (by simp) hD ?_)
  refine lv_call (numJ b4 b5 b6 b7 (acc, m, wh, ev) ++ ([(x5, .cells #[.slice a n c] 32 (0, 0)), (x3, .cells #[.pointer (some ⟨b5, 0, none⟩)] 270 (0, 0)), (x2, .cells #[.pointer (some ⟨s, 0, none⟩)] 85 (0, 0))] ++ HX)) [(s, .cells #[.slice a' n' c'] 178 (0, 0))] (fun w h => ?_) call220 (allC (Q := fun k => w.heap.size ≤ k ∨ k ∈ keys (srcM s (.slice a n c) HX)) (.inr (by simp [srcM])) (allN (Q := fun k => w.heap.size ≤ k ∨ k ∈ keys (srcM s (.slice a n c) HX)))) (fun w h => ?_) (post' := fun _ H1 => H1 = [(s, .cells #[if ev = 0 then .slice a' n' c' else .slice a n c] 178 (0, 0))]) ?_
  · have h1 : Hp (numJ b4 b5 b6 b7 (acc, m, wh, ev) ++ ([(x5, .cells #[.slice a n c] 32 (0, 0)), (x3, .cells #[.pointer (some ⟨b5, 0, none⟩)] 270 (0, 0)), (x2, .cells #[.pointer (some ⟨s, 0, none⟩)] 85 (0, 0))] ++ srcM s (.slice a' n' c') HX)) w := h.perm (by rw [List.append_assoc]; exact List.Perm.append_left _ List.perm_append_comm)
    exact (Hp.pickT (A := [_, _, _, _, _, _, _, _]) (T := HX) (is := [7, 0, 1, 2, 3, 4, 5, 6]) h1 rfl rfl).perm (List.perm_append_comm (l₁ := [_]))
  · have h1 : Hp ([(s, .cells #[.slice a' n' c'] 178 (0, 0))] ++ (numJ b4 b5 b6 b7 (acc, m, wh, ev) ++ ([(x5, .cells #[.slice a n c] 32 (0, 0)), (x3, .cells #[.pointer (some ⟨b5, 0, none⟩)] 270 (0, 0)), (x2, .cells #[.pointer (some ⟨s, 0, none⟩)] 85 (0, 0))] ++ HX))) w := h.perm List.perm_append_comm
    exact c_back1 s b5 x2 x3 x5 a a' n c n' c' ev w (Hp.pickT (A := [_, _, _, _, _, _, _, _]) (T := HX) (is := [5, 6, 7, 3, 0]) h1 rfl rfl).left
  · rintro v H1 rfl -
    refine lv_end (l := [.cell 4 128, .cell 5 29]) (H1 := srcM s (if ev = 0 then .slice a' n' c' else .slice a n c) HX) rfl ⟨_, _, b4, 0, rfl, h4, load_cell (i := 3) isAgg128 rfl rfl, _, _, b5, 0, rfl, h5, load_cell (i := 2) isAgg29 rfl rfl, rfl⟩ hres (fun w h => ?_) in_src
    have h1 : Hp ([(s, .cells #[if ev = 0 then .slice a' n' c' else .slice a n c] 178 (0, 0))] ++ (numJ b4 b5 b6 b7 (acc, m, wh, ev) ++ ([(x5, .cells #[.slice a n c] 32 (0, 0)), (x3, .cells #[.pointer (some ⟨b5, 0, none⟩)] 270 (0, 0)), (x2, .cells #[.pointer (some ⟨s, 0, none⟩)] 85 (0, 0))] ++ HX))) w := h.perm List.perm_append_comm
    exact (Hp.pickT (A := [_, _, _, _, _, _, _, _]) (T := HX) (is := [0]) h1 rfl rfl)

set_option maxHeartbeats 2000000 in
theorem c_num (HX : Mem) (s most : Nat) (sv : Value) (ys : List UInt8) (w : World) (hb : Rdb HX sv ys) (hlen : ys.length ≤ 4611686018427387904) (_ : most < 18446744073709551616) (hw : Hp (srcM s sv HX) w) : Calls Tryz.prog 161 #[.pointer (some ⟨s, 0, none⟩), .int .u64 (most : Int)] w (Ret w (keys (srcM s sv HX)) (Reads HX s (fun n : Nat => .int .u64 (n : Int)) (.int .u64 0) ys (numD most ys))) := by
 obtain ⟨a, c, rfl⟩ := hb.shape
 generalize hn : ys.length = n at *
 refine fn_enter (args := [_, _]) func161 rfl ntmps161 rfl hw (sq (pl (TE_alloc rfl zeroValue128 trivial rfl fun b4 hb4 => (TE_alloc rfl zeroValue29 trivial rfl fun b5 hb5 => (n0 (pn_scope (sq (sq (pl ?_)))))))))
 refine qm rfl (qq rfl (RD.ptr_eql_nil runUnderlying85 rfl rfl) (n0 (pn_condF rfl (sk (sq (pl (qm rfl (TE_call rfl rfl trivial call173 rfl rfl rfl (fun w hs' => c_back s b5 a n c w (hs'.hp.left.sub (.cons _ (.cons _ (.cons_cons _ (List.nil_sublist _)))))) ?_))))))))
 rintro v13 H1 ⟨x2, x3, x5, rfl, rfl⟩ hxs
 refine TE_defer rfl trivial rfl rfl (n0 (sq (pl (TE_alloc rfl zeroValue3 trivial rfl fun b6 hb6 => (TE_alloc rfl zeroValue4 trivial rfl fun b7 hb7 => (TE_store (i := 1) rfl sizeOf3 trivial rfl rfl rfl rfl rfl rfl (.inl (by assumption)) (TE_store (i := 0) rfl sizeOf4 trivial rfl rfl rfl rfl rfl rfl (.inl (by assumption)) (n0 (sq ?_)))))))))
 refine pn_label (sq (sq (pl (qm rfl (TE_call rfl rfl trivial call201 rfl rfl rfl (fun w hs' => c_next s w) ?_)))))
 rintro v15 H1 ⟨x1, rfl, rfl⟩ hx1
 refine n0 (pn_block (pn_rangeH (τ := Unit) (HI := (x1, .cells #[.pointer (some ⟨s, 0, none⟩)] 85 (0, 0)) :: srcM s (.slice a n c) HX) (HR := [(x5, .cells #[.slice a n c] 32 (0, 0)), (x3, .cells #[.pointer (some ⟨b5, 0, none⟩)] 270 (0, 0)), (x2, .cells #[.pointer (some ⟨s, 0, none⟩)] 85 (0, 0))]) (it_next HX x1 s a n c ys hb (by omega)) (numJ b4 b5 b6 b7) (numG ys) (numT ys) (0, 0, false, 0) (numG0 ys) rfl call246 (by intro x; rfl) rfl (fun w h => (Hp.pickT (A := [_, _, _, _, _, _, _, _, _]) (T := HX) (is := [1, 2, 6, 7, 3, 4, 5, 0, 8]) h rfl rfl).perm (List.perm_append_comm (l₁ := [_, _, _, _, _, _, _]))) (allA (Q := fun k => w.heap.size ≤ k ∨ k ∈ keys (srcM s (.slice a n c) HX)) (allC (Q := fun k => w.heap.size ≤ k ∨ k ∈ keys (srcM s (.slice a n c) HX)) (.inl (hx1 (x1, _) List.mem_cons_self)) (fun e he => .inr (mem_keys.2 ⟨e, he, rfl⟩))) (allC (Q := fun k => w.heap.size ≤ k ∨ k ∈ keys (srcM s (.slice a n c) HX)) (.inl hb7) (allC (Q := fun k => w.heap.size ≤ k ∨ k ∈ keys (srcM s (.slice a n c) HX)) (.inl hb6) (allC (Q := fun k => w.heap.size ≤ k ∨ k ∈ keys (srcM s (.slice a n c) HX)) (.inl hb5) (allC (Q := fun k => w.heap.size ≤ k ∨ k ∈ keys (srcM s (.slice a n c) HX)) (.inl hb4) (allN (Q := fun k => w.heap.size ≤ k ∨ k ∈ keys (srcM s (.slice a n c) HX)))))))) (fun x _ => [(8, bcell x), (7, .pointer (some ⟨b7, 0, none⟩)), (6, .pointer (some ⟨b6, 0, none⟩)), (5, .pointer (some ⟨b5, 0, none⟩)), (4, .pointer (some ⟨b4, 0, none⟩)), (0, .pointer (some ⟨s, 0, none⟩)), (1, .int .u64 (most : Int))]) (fun _ _ => []) (fun _ _ => True) ?_ ?_ ?_ ?_))
 ·intro W l1 pre x y R hW hG hpre
  refine pl (qa rfl (n0 ?_))
  (exact fun a w hr hs => ⟨(), trivial, hr.keeps ⟨rfl, rfl, rfl, rfl, rfl, rfl, rfl, trivial⟩, hs⟩)
 ·rintro W l1 pre ch ⟨acc, m, wh, e⟩ t R hW hG hpre -; have hG' := hG; obtain ⟨h1, h2, h3, h4, h5, h6⟩ := hG'; dsimp only at h1 h2 h3 h5 h6; subst h2; subst h3; rw [← h1] at h4 h5; have hch : ch.toNat < 256 := ch.toNat_lt
  refine pn_block (sq (pn_plain [2] rfl (qm rfl (qq rfl (RD.as (RD.rem rfl rfl (by decide)) (rem128 ch.toNat)) (qq rfl (RD.as (RD.conv runUnderlying5 runUnderlying128 rfl) (u64_len (by omega))) (qa rfl (n0 (sq (sq ?_)))))))))
  refine pl (qm rfl (qq rfl (RD.lss rfl rfl) (TE_store (i := 0) rfl sizeOf4 trivial rfl rfl rfl rfl rfl rfl (.inr (by simp [numJ])) (n0 (sq (pn_cut (σ := Unit) (fun _ => [(42, .bool (decide ((m = 9 ∧ (ch.toNat % 128 > 1 ∨ ¬ ch.toNat < 128)) ∨ (ch.toNat < 128 ∧ ch.toNat % 128 = 0 ∧ 0 < m)))), (9, .int .u64 ((ch.toNat % 128 : Nat) : Int)), (8, bcell ch), (7, .pointer (some ⟨b7, 0, none⟩)), (6, .pointer (some ⟨b6, 0, none⟩)), (5, .pointer (some ⟨b5, 0, none⟩)), (4, .pointer (some ⟨b4, 0, none⟩)), (0, .pointer (some ⟨s, 0, none⟩)), (1, .int .u64 (most : Int))]) (fun _ => ((b7, .cells #[.bool (decide ((ch.toNat : Int) < 128))] 4 (0, 0)) :: (b6, .cells #[.int .i64 (m : Int)] 3 (0, 0)) :: (b5, .cells #[.int .i64 0] 29 (0, 0)) :: (b4, .cells #[.int .u64 (acc : Int)] 128 (0, 0)) :: ([(x5, .cells #[.slice a n c] 32 (0, 0)), (x3, .cells #[.pointer (some ⟨b5, 0, none⟩)] 270 (0, 0)), (x2, .cells #[.pointer (some ⟨s, 0, none⟩)] 85 (0, 0))] ++ R))) (fun _ => True) ?_ ?_))))))
  ·refine pl (ql rfl (RD.load (i := 1) isAgg3 rfl rfl rfl) (qq rfl (RD.eql rfl rfl) (qm rfl ?_)))
   (first | refine TE_isT ?_ | refine TE_isF ?_ | refine TE_dec (fun h902 => ?_) (fun h902 => ?_) | refine TE_ndec (fun h902 => ?_) (fun h902 => ?_) | refine TE_bool (fun h902 => ?_) (fun h902 => ?_))
   all_goals (first | (refine TE_s rfl rfl rfl rfl rfl ?_) | (refine TE_gq rfl rfl rfl rfl (RD.move rfl) rfl ?_))
   all_goals (first | (refine TE_s rfl rfl rfl rfl rfl ?_) | (refine TE_gq rfl rfl rfl rfl (RD.gtr rfl rfl) rfl ?_))
   all_goals (first | (refine TE_s rfl rfl rfl rfl rfl ?_) | (refine TE_gq rfl rfl rfl rfl (RD.move rfl) rfl ?_))
   all_goals (first | refine TE_isT ?_ | refine TE_isF ?_ | refine TE_dec (fun h905 => ?_) (fun h905 => ?_) | refine TE_ndec (fun h905 => ?_) (fun h905 => ?_) | refine TE_bool (fun h905 => ?_) (fun h905 => ?_) | skip)
   all_goals (first | (refine TE_s rfl rfl rfl rfl rfl ?_) | (refine TE_su rfl rfl rfl rfl ?_) | (refine TE_l rfl rfl ⟨_, rfl, rfl⟩ rfl (RD.load (i := 0) isAgg4 rfl rfl rfl) rfl ?_))
   all_goals (first | (refine TE_s rfl rfl rfl rfl rfl ?_) | (refine TE_su rfl rfl rfl rfl ?_) | (refine TE_gq rfl rfl rfl rfl (RD.not rfl) rfl ?_))
   all_goals (first | (refine TE_s rfl rfl rfl rfl rfl ?_) | (refine TE_gq rfl rfl rfl rfl (RD.pickT rfl rfl) rfl ?_) | (refine TE_gq rfl rfl rfl rfl (RD.pickF rfl rfl) rfl ?_))
   all_goals (first | (refine TE_q rfl rfl (RD.pickT rfl rfl) rfl ?_) | (refine TE_q rfl rfl (RD.pickF rfl rfl) rfl ?_))
   all_goals refine TE_q rfl rfl (RD.move rfl) rfl ?_
   all_goals (first | refine TE_isT ?_ | refine TE_isF ?_ | refine TE_dec (fun h910 => ?_) (fun h910 => ?_) | refine TE_ndec (fun h910 => ?_) (fun h910 => ?_) | refine TE_bool (fun h910 => ?_) (fun h910 => ?_))
   all_goals (first | (refine TE_s rfl rfl rfl rfl rfl ?_) | (refine TE_l rfl rfl ⟨_, rfl, rfl⟩ rfl (RD.load (i := 0) isAgg4 rfl rfl rfl) rfl ?_))
   all_goals (first | (refine TE_s rfl rfl rfl rfl rfl ?_) | (refine TE_gq rfl rfl rfl rfl (RD.move rfl) rfl ?_))
   all_goals (first | refine TE_isT ?_ | refine TE_isF ?_ | refine TE_dec (fun h912 => ?_) (fun h912 => ?_) | refine TE_ndec (fun h912 => ?_) (fun h912 => ?_) | refine TE_bool (fun h912 => ?_) (fun h912 => ?_) | skip)
   all_goals (first | (refine TE_s rfl rfl rfl rfl rfl ?_) | (refine TE_su rfl rfl rfl rfl ?_) | (refine TE_gq rfl rfl rfl rfl (RD.move rfl) rfl ?_))
   all_goals (first | (refine TE_s rfl rfl rfl rfl rfl ?_) | (refine TE_su rfl rfl rfl rfl ?_) | (refine TE_gq rfl rfl rfl rfl (RD.eql rfl rfl) rfl ?_))
   all_goals (first | (refine TE_s rfl rfl rfl rfl rfl ?_) | (refine TE_gq rfl rfl rfl rfl (RD.pickT rfl rfl) rfl ?_) | (refine TE_gq rfl rfl rfl rfl (RD.pickF rfl rfl) rfl ?_))
   all_goals (first | (refine TE_s rfl rfl rfl rfl rfl ?_) | (refine TE_gq rfl rfl rfl rfl (RD.move rfl) rfl ?_))
   all_goals (first | refine TE_isT ?_ | refine TE_isF ?_ | refine TE_dec (fun h916 => ?_) (fun h916 => ?_) | refine TE_ndec (fun h916 => ?_) (fun h916 => ?_) | refine TE_bool (fun h916 => ?_) (fun h916 => ?_) | skip)
   all_goals (first | (refine TE_s rfl rfl rfl rfl rfl ?_) | (refine TE_su rfl rfl rfl rfl ?_) | (refine TE_l rfl rfl ⟨_, rfl, rfl⟩ rfl (RD.load (i := 1) isAgg3 rfl rfl rfl) rfl ?_))
   all_goals (first | (refine TE_s rfl rfl rfl rfl rfl ?_) | (refine TE_su rfl rfl rfl rfl ?_) | (refine TE_gq rfl rfl rfl rfl (RD.gtr rfl rfl) rfl ?_))
   all_goals (first | (refine TE_s rfl rfl rfl rfl rfl ?_) | (refine TE_gq rfl rfl rfl rfl (RD.pickT rfl rfl) rfl ?_) | (refine TE_gq rfl rfl rfl rfl (RD.pickF rfl rfl) rfl ?_))
   all_goals (first | (refine TE_q rfl rfl (RD.pickT rfl rfl) rfl ?_) | (refine TE_q rfl rfl (RD.pickF rfl rfl) rfl ?_))
   all_goals refine TE_nil0 ?_
   all_goals ((try dsimp only at *); first | (have hF : ((m = 9 ∧ (ch.toNat % 128 > 1 ∨ ¬ ch.toNat < 128)) ∨ (ch.toNat < 128 ∧ ch.toNat % 128 = 0 ∧ 0 < m)) := (by omega); exact pn_give () trivial ⟨by rw [decide_eq_true hF]; rfl, rfl, rfl, rfl, rfl, rfl, rfl, rfl, rfl, trivial⟩ (fun w h => h)) | (have hF : ¬ ((m = 9 ∧ (ch.toNat % 128 > 1 ∨ ¬ ch.toNat < 128)) ∨ (ch.toNat < 128 ∧ ch.toNat % 128 = 0 ∧ 0 < m)) := (by omega); exact pn_give () trivial ⟨by rw [decide_eq_false hF]; rfl, rfl, rfl, rfl, rfl, rfl, rfl, rfl, rfl, trivial⟩ (fun w h => h)) | (have hF : ((m = 9 ∧ (ch.toNat % 128 > 1 ∨ ¬ ch.toNat < 128)) ∨ (ch.toNat < 128 ∧ ch.toNat % 128 = 0 ∧ 0 < m)) ↔ (0 : Int) < (m : Int) := (by omega); exact pn_give () trivial ⟨by rw [decide_eq_decide.2 hF]; rfl, rfl, rfl, rfl, rfl, rfl, rfl, rfl, rfl, trivial⟩ (fun w h => h)))
  rintro - -
  first | refine pn_condD rfl (fun hc1 => ?_) (fun hc1 => ?_) | refine pn_condN rfl (fun hc1 => ?_) (fun hc1 => ?_) | refine pn_cond rfl (fun hc1 => ?_) (fun hc1 => ?_)
  ·exact sq (pl (TE_store (i := 3) rfl sizeOf128 trivial rfl rfl rfl rfl rfl rfl (.inr (by simp [numJ])) (TE_store (i := 2) rfl sizeOf29 trivial rfl rfl rfl rfl rfl rfl (.inr (by simp [numJ])) (n0 (rt (pn_endR (σ := NumS) (HJ := numJ b4 b5 b6 b7) (s := (acc, m, false, 0)) (l := l1) (R := R) (0, m, decide ((ch.toNat : Int) < 128), 11) rfl (numT_form hG hpre hc1) (fun w h => h.sub (.cons_cons _ (.cons_cons _ (.cons_cons _ (.cons_cons _ (.cons _ (.cons _ (.cons _ (List.Sublist.refl _))))))))) in_keys))))))
  ·refine sk (sq (pn_drawT [2] [3] [0, 1, 2, 4, 5, 6] [_, _, _, _, _, _, _] R rfl rfl (by kernel_rfl) (by kernel_rfl) rfl rfl (ql rfl (RD.load (i := 0) isAgg128 rfl rfl rfl) (qm rfl (qq rfl (RD.load (i := 1) isAgg3 rfl rfl rfl) (qq rfl (RD.mulI rfl rfl (by omega) (by omega)) (qq rfl (RD.as (RD.shl rfl rfl (by omega)) (shl_low (m := ch.toNat % 128) (by omega) (low_lt h4 hc1))) (qq rfl (RD.as (RD.orU rfl rfl (acc_lt64 h4 h5) (low_lt h4 hc1)) (by rw [or_low h5])) (TE_store (i := 0) rfl sizeOf128 trivial rfl rfl rfl rfl rfl rfl (.inr (by simp [numJ])) ?_)))))))))
   refine TE_nil (sq (pn_pickT [1, 2, 3, 0, 4, 5, 6] [_, _, _, _, _, _, _] R rfl rfl rfl (pl (ql rfl (RD.load (i := 1) isAgg3 rfl rfl rfl) (qq rfl (RD.addI rfl rfl (by omega) (by omega)) (TE_store (i := 1) rfl sizeOf3 trivial rfl rfl rfl rfl rfl rfl (.inr (by simp [numJ])) (n0 (sq (pl ?_)))))))))
   refine ql rfl (RD.load (i := 0) isAgg4 rfl rfl rfl) (n0 ?_)
   first | refine pn_condD rfl (fun hc2 => ?_) (fun hc2 => ?_) | refine pn_condN rfl (fun hc2 => ?_) (fun hc2 => ?_) | refine pn_cond rfl (fun hc2 => ?_) (fun hc2 => ?_)
   ·refine xt ?_
    (exact pn_endR (σ := NumS) (HJ := numJ b4 b5 b6 b7) (s := (acc, m, false, 0)) (l := l1) (R := R) (acc + ch.toNat % 128 * 128 ^ m, m + 1, decide ((ch.toNat : Int) < 128), 0) rfl (by rw [show decide ((ch.toNat : Int) < 128) = true from decide_eq_true (by omega)]; exact numT_ok hG hpre hc1 (by omega)) (fun w h => h.sub (.cons_cons _ (.cons_cons _ (.cons_cons _ (.cons_cons _ (.cons _ (.cons _ (.cons _ (List.Sublist.refl _))))))))) in_keys)
   ·refine sk ?_
    (exact pn_endR (σ := NumS) (HJ := numJ b4 b5 b6 b7) (s := (acc, m, false, 0)) (l := l1) (R := R) (acc + ch.toNat % 128 * 128 ^ m, m + 1, decide ((ch.toNat : Int) < 128), 0) rfl (by rw [show decide ((ch.toNat : Int) < 128) = false from decide_eq_false (by omega)]; exact numG_step hG hpre hc1 (by omega)) (fun w h => h.sub (.cons_cons _ (.cons_cons _ (.cons_cons _ (.cons_cons _ (.cons _ (.cons _ (.cons _ (List.Sublist.refl _))))))))) in_keys)
 ·rintro D HI' ⟨acc, m, wh, e⟩ hD hG ⟨a', n', c', rfl, hb'⟩; have hG' := hG; obtain ⟨h1, h2, h3, h4, h5, h6⟩ := hG'; dsimp only at h1 h2 h3 h5 h6; subst h2; subst h3
  refine sq (pn_block (sq (pl (ql rfl (RD.load (i := 0) isAgg4 rfl rfl rfl) (qq rfl (RD.not rfl) (qa rfl (n0 (pn_condT rfl (sq ?_)))))))))
  exact pl (TE_store (i := 3) rfl sizeOf128 trivial rfl rfl rfl rfl rfl rfl (.inl hb4) (TE_store (i := 2) rfl sizeOf29 trivial rfl rfl rfl rfl rfl rfl (.inl hb5) (n0 (rt (num_end rfl rfl hD (.inr ⟨10, _, ys, by simp only [numD, num_short hG], by decide, rfl, rfl, hb, Nat.le_refl _⟩))))))
 ·rintro D HI' c0 pre ⟨acc, m, wh, e⟩ hD hpre hS ⟨a', n', c', rfl, hb'⟩; rcases hS with ⟨rfl, h1, h2, h3⟩ | ⟨rfl, h1, h2, h4, h3⟩; (dsimp only at h1 h2; subst h1; subst h2; refine pn_ret ?_; exact num_end rfl rfl hD (.inr ⟨11, _, ys, by simp only [numD, h3], by decide, rfl, rfl, hb, Nat.le_refl _⟩)); dsimp only at h1 h2 h3 h4; subst h1; subst h2; refine pn_exit ?_
  refine sq (pn_block (sq (pl (ql rfl (RD.load (i := 0) isAgg4 rfl rfl rfl) (qq rfl (RD.not rfl) (qa rfl (n0 (pn_condF rfl (sq ?_)))))))))
  refine pl (ql rfl (RD.load (i := 3) isAgg128 rfl rfl rfl) (qm rfl (qq rfl (RD.gtr rfl rfl) (qa rfl (n0 ?_)))))
  first | refine pn_condD rfl (fun hc5 => ?_) (fun hc5 => ?_) | refine pn_condN rfl (fun hc5 => ?_) (fun hc5 => ?_) | refine pn_cond rfl (fun hc5 => ?_) (fun hc5 => ?_)
  ·exact sq (pl (TE_store (i := 3) rfl sizeOf128 trivial rfl rfl rfl rfl rfl rfl (.inl hb4) (TE_store (i := 2) rfl sizeOf29 trivial rfl rfl rfl rfl rfl rfl (.inl hb5) (n0 (rt (num_end rfl rfl hD (.inr ⟨12, _, ys, by simp only [numD, h3]; rw [if_pos (by omega)], by decide, rfl, rfl, hb, Nat.le_refl _⟩)))))))
  ·exact sk (sq (pl (ql rfl (RD.load (i := 3) isAgg128 rfl rfl rfl) (TE_store (i := 3) rfl sizeOf128 trivial rfl rfl rfl rfl rfl rfl (.inl hb4) (TE_store (i := 2) rfl sizeOf29 trivial rfl rfl rfl rfl rfl rfl (.inl hb5) (n0 (rt (num_end rfl rfl hD (.inl ⟨acc, _, _, by simp only [numD, h3]; rw [if_neg (by omega)], rfl, rfl, hb', by simp⟩)))))))))
end Go.Proofs.YtcmnmigcalibdaaGreatDoor

namespace Go.Proofs.YtcmnmigcalibdaaGreatDoor
open Go.Proofs.Tryz
open Go Go.Mv
set_option maxRecDepth 8000
theorem lv_back {fn : Func} {C : Ctx} {R : Ending → World → Prop} {E : Env} {ds : List Deferred} {H : Mem} {s : Nat} {a a' : Option Addr} {n c n' c' b5 x2 x3 x5 : Nat} {ev : Int} (REST : Mem) (hH : ∀ w, Hp H w → Hp (([(x5, .cells #[.slice a n c] 32 (0, 0)), (x3, .cells #[.pointer (some ⟨b5, 0, none⟩)] 270 (0, 0)), (x2, .cells #[.pointer (some ⟨s, 0, none⟩)] 85 (0, 0)), (b5, .cells #[.int .i64 ev] 29 (0, 0))] ++ REST) ++ [(s, .cells #[.slice a' n' c'] 178 (0, 0))]) w) (hX : C.w0.heap.size ≤ s ∨ s ∈ C.X)
    (h : LV Tryz.prog fn C R E ds (([(x5, .cells #[.slice a n c] 32 (0, 0)), (x3, .cells #[.pointer (some ⟨b5, 0, none⟩)] 270 (0, 0)), (x2, .cells #[.pointer (some ⟨s, 0, none⟩)] 85 (0, 0)), (b5, .cells #[.int .i64 ev] 29 (0, 0))] ++ REST) ++ [(s, .cells #[if ev = 0 then .slice a' n' c' else .slice a n c] 178 (0, 0))])) : LV Tryz.prog fn C R E ({ target := .fn (.func 220) #[.pointer (some ⟨x3, 0, none⟩), .pointer (some ⟨x5, 0, none⟩), .pointer (some ⟨x2, 0, none⟩)], args := #[] } :: ds) H := by
  refine lv_call ([(x5, .cells #[.slice a n c] 32 (0, 0)), (x3, .cells #[.pointer (some ⟨b5, 0, none⟩)] 270 (0, 0)), (x2, .cells #[.pointer (some ⟨s, 0, none⟩)] 85 (0, 0)), (b5, .cells #[.int .i64 ev] 29 (0, 0))] ++ REST) [(s, .cells #[.slice a' n' c'] 178 (0, 0))] hH call220 (allC (Q := fun k => C.w0.heap.size ≤ k ∨ k ∈ C.X) hX (allN (Q := fun k => C.w0.heap.size ≤ k ∨ k ∈ C.X))) (fun w h => ?_) (post' := fun _ H1 => H1 = [(s, .cells #[if ev = 0 then .slice a' n' c' else .slice a n c] 178 (0, 0))]) ?_
  · exact c_back1 s b5 x2 x3 x5 a a' n c n' c' ev w (h.sub (List.Sublist.append_right (List.sublist_append_left _ _) _))
  · rintro v H1 rfl -
    exact h
/-- What reading bytes leaves. -/
def ReadsB (HX : Mem) (s : Nat) (ys : List UInt8) (d : Dr (List UInt8)) (v : Value) (H1 : Mem) : Prop :=
  (∃ b r v' x H2, d = .ok b r ∧ v = .tuple #[x, .int .i64 0] ∧ RetB 5 x H2 b ∧ H1 = H2 ++ srcM s v' HX ∧ Rdb HX v' r ∧ r.length ≤ ys.length) ∨
  (∃ e v' r, d = .err e ∧ e ≠ 0 ∧ v = .tuple #[.slice none 0 0, .int .i64 e] ∧ H1 = srcM s v' HX ∧ Rdb HX v' r ∧ r.length ≤ ys.length)

theorem c_raw (HX : Mem) (s n : Nat) (sv : Value) (ys : List UInt8) (w : World) (hb : Rdb HX sv ys) (hlen : ys.length ≤ 2199023255552) (hw : Hp (srcM s sv HX) w) : Calls Tryz.prog 104 #[.pointer (some ⟨s, 0, none⟩), .int .i64 (n : Int)] w (Ret w (keys (srcM s sv HX)) (ReadsB HX s ys (rawD n ys))) := by
 refine fn_enter (args := [_, _]) func104 rfl ntmps104 rfl hw (sq (pl (qa rfl (qa rfl (n0 (sq (pn_block (sq (pl ?_)))))))))
 refine qm rfl (qq rfl (RD.ptr_eql_nil runUnderlying85 rfl rfl) (qa rfl (n0 (pn_condF rfl (sq (pl (qm rfl (qq rfl (RD.as (v := .bool false) (RD.lss rfl rfl) (by rw [decide_eq_false (by omega)])) (qa rfl ?_)))))))))
 refine n0 (pn_condF rfl (sq (pn_plain [5] rfl (qm rfl (qm rfl (qn rfl (qq rfl (RD.fieldAddr (o := 0) runUnderlying178 rfl rfl sizeOf32 rfl) (ql rfl (RD.load (i := 0) isAgg32 rfl rfl rfl) (qq rfl (RD.lenR runUnderlying32 rfl hb) ?_)))))))))
 refine qq rfl (RD.gtr rfl rfl) (qa rfl (n0 ?_))
 first | refine pn_condD rfl (fun hc2 => ?_) (fun hc2 => ?_) | refine pn_condN rfl (fun hc2 => ?_) (fun hc2 => ?_) | refine pn_cond rfl (fun hc2 => ?_) (fun hc2 => ?_)
 ·exact sq (pl (qa rfl (qa rfl (n0 (rt (pn_doneF rfl ⟨_, _, rfl, rfl, _, _, rfl, rfl, rfl⟩ (.inr ⟨10, sv, ys, by simp only [rawD]; rw [if_pos (by omega)], by decide, rfl, rfl, hb, Nat.le_refl _⟩) (fun w h => h) in_src))))))
 ·refine sk (sq (pl (qm rfl ?_)))
  have hle : n ≤ ys.length := (by omega); have hb2 := hb.cut hle; obtain ⟨a2, c2, hs2⟩ := hb2.shape; rw [hs2] at hb2
  refine qn rfl (qq rfl (RD.fieldAddr (o := 0) runUnderlying178 rfl rfl sizeOf32 rfl) (ql rfl (RD.load (i := 0) isAgg32 rfl rfl rfl) (qm rfl (qq rfl (RD.sliceR (l := 0) (h := n) runUnderlying32 sizeOf5 rfl hb rfl ⟨_, rfl⟩ (Nat.zero_le _) hle) (TE_call rfl rfl trivial call105 rfl rfl rfl (fun w hs' => c_clone HX _ (ys.take n) w (hs'.hp.left.sub (List.sublist_cons_self _ _)) (by have := hb.sub (Nat.zero_le n) hle; rw [List.drop_zero] at this; exact this.bytes) (by rw [List.length_take]; omega)) ?_)))))
  rintro v27 H6 hr hX6
  refine qa rfl (n0 (sq (pn_perm (srcM s sv HX ++ H6) (fun w h => h.perm List.perm_append_comm) (pl (qm rfl (qm rfl (qn rfl (qq rfl (RD.fieldAddr (o := 0) runUnderlying178 rfl rfl sizeOf32 rfl) (ql rfl (RD.load (i := 0) isAgg32 rfl rfl rfl) ?_)))))))))
  refine qm rfl (qq rfl (RD.as (RD.sliceR (l := n) (h := ys.length) runUnderlying32 sizeOf5 rfl hb ⟨_, rfl⟩ rfl hle (Nat.le_refl _)) hs2) (qn rfl (qq rfl (RD.fieldAddr (o := 0) runUnderlying178 rfl rfl sizeOf32 rfl) (TE_store (i := 0) rfl sizeOf32 trivial rfl rfl rfl rfl rfl rfl (.inr (by simp [srcM])) (n0 (sq (pl (qm rfl (qa rfl ?_)))))))))
  exact qa rfl (n0 (rt (pn_doneF rfl ⟨_, _, rfl, rfl, _, _, rfl, rfl, rfl⟩ (.inl ⟨_, _, _, _, H6, by simp only [rawD]; rw [if_neg (by omega)], rfl, hr, rfl, hb2, by simp⟩) (fun w h => Hp.perm (A := srcM s _ HX ++ H6) h List.perm_append_comm) (allA (Q := fun k => k ∈ keys (srcM s sv HX) ∨ _ ≤ k) (fun e he => .inr (hX6 e he)) in_src))))
theorem c_left (HX : Mem) (s : Nat) (sv : Value) (ys : List UInt8) (w : World) (hb : Rdb HX sv ys) (hw : Hp (srcM s sv HX) w) : Calls Tryz.prog 132 #[.pointer (some ⟨s, 0, none⟩)] w (Ret w [] fun v H1 => v = .int .i64 ys.length ∧ H1 = []) := by
 refine fn_enter (args := [_]) func132 rfl ntmps132 rfl hw (sq (pl (qa rfl (n0 (sq (sq (pl (qm rfl (qq rfl (RD.ptr_eql_nil runUnderlying85 rfl rfl) ?_)))))))))
 refine n0 (pn_condF rfl (sk (sq (pn_plain [4] rfl (qm rfl (qn rfl (qq rfl (RD.fieldAddr (o := 0) runUnderlying178 rfl rfl sizeOf32 rfl) (ql rfl (RD.load (i := 0) isAgg32 rfl rfl rfl) (qq rfl (RD.lenR runUnderlying32 rfl hb) ?_)))))))))
 exact qa rfl (n0 (rt (pn_done rfl rfl ⟨rfl, rfl⟩ (List.nil_sublist _) (by simp))))
set_option maxHeartbeats 2000000 in
theorem c_bytes (HX : Mem) (s most : Nat) (sv : Value) (ys : List UInt8) (w : World) (hb : Rdb HX sv ys) (hlen : ys.length ≤ 2199023255552) (hm : most ≤ 9223372036854775807) (hw : Hp (srcM s sv HX) w) : Calls Tryz.prog 127 #[.pointer (some ⟨s, 0, none⟩), .int .i64 (most : Int)] w (Ret w (keys (srcM s sv HX)) (ReadsB HX s ys (bytesD most ys))) := by
 obtain ⟨a, c, rfl⟩ := hb.shape
 generalize hn : ys.length = n at *
 refine fn_enter (args := [_, _]) func127 rfl ntmps127 rfl hw (sq (pl (qa rfl (TE_alloc rfl zeroValue29 trivial rfl fun b5 hb5 => (n0 (sq (sq (pl (qm rfl ?_)))))))))
 refine qq rfl (RD.ptr_eql_nil runUnderlying85 rfl rfl) (n0 (pn_condF rfl (sk (sq (pl (qm rfl (TE_call rfl rfl trivial call173 rfl rfl rfl (fun w hs' => c_back s b5 a n c w (hs'.hp.left.sub (.cons _ (.cons_cons _ (List.nil_sublist _))))) ?_)))))))
 rintro v10 H1 ⟨x2, x3, x5, rfl, rfl⟩ hxs
 refine TE_defer rfl trivial rfl rfl (n0 (sq (pn_pickT [3, 0, 1, 2] [_, _, _, _] (srcM s (.slice a n c) HX) rfl rfl rfl (pn_plain [2, 3] rfl (qm rfl (qm rfl (qq rfl (RD.as (RD.max2 rfl rfl) (show _ = Value.int .i64 (most : Int) by congr 1; split <;> omega)) (qq rfl (RD.as (RD.conv runUnderlying3 runUnderlying128 rfl) (u64_len (by omega))) (TE_callT [_, _, _, _] (srcM s (.slice a n c) HX) rfl rfl rfl trivial call161 rfl rfl rfl (fun e he => .inr (mem_keys.2 ⟨e, he, rfl⟩)) (fun w hs' => c_num HX s most _ ys w hb (by omega) (by omega) (hs'.hp.left.right (A := [_, _, _, _]))) ?_)))))))))
 rintro v16 H4 (⟨k, r, v1, hd, rfl, rfl, hb1, hl1⟩ | ⟨e, v1, r, hd, he, rfl, rfl, hb1, hl1⟩) hX1
 all_goals refine TE_q rfl rfl (RD.move rfl) rfl ?_
 all_goals refine TE_q rfl rfl (RD.extract rfl rfl) rfl ?_
 all_goals refine TE_q rfl rfl (RD.extract rfl rfl) rfl ?_
 all_goals refine TE_q rfl rfl (RD.assign rfl) rfl ?_
 all_goals refine TE_store (i := 0) rfl sizeOf29 trivial rfl rfl rfl rfl rfl rfl (.inl hb5) ?_
 all_goals refine TE_nil0 ?_
 all_goals refine pn_seq ?_
 all_goals refine pn_seq ?_
 all_goals refine pn_plain [] rfl ?_
 all_goals refine TE_l rfl rfl trivial rfl (RD.load (i := 0) isAgg29 rfl rfl rfl) rfl ?_
 all_goals first | refine TE_q rfl rfl (RD.as (v := .bool true) (RD.neq rfl rfl) (by rw [decide_eq_false he]; rfl)) rfl ?_ | refine TE_q rfl rfl (RD.neq rfl rfl) rfl ?_
 all_goals refine TE_nil0 ?_
 all_goals first
  | (
    refine pn_condT rfl (sq (pn_drawT [] [0] [1, 2, 3] [_, _, _, _] (srcM s v1 HX) rfl rfl (by kernel_rfl) (by kernel_rfl) rfl rfl (ql rfl (RD.load (i := 0) isAgg29 rfl rfl rfl) (qa rfl (TE_store (i := 0) rfl sizeOf29 trivial rfl rfl rfl rfl rfl rfl (.inl hb5) (TE_nil (rt ?_)))))))
    obtain ⟨a9, c9, rfl⟩ := hb1.shape; exact lv_ret (lv_back (HX) (fun w h => (Hp.pickT (A := [_, _, _, _, _]) (T := HX) (is := [4, 1, 2, 3, 0]) (h) rfl rfl).perm (List.perm_append_comm (l₁ := [_]))) (hX1 (s, _) List.mem_cons_self) (lv_end rfl ⟨_, _, rfl, rfl, _, _, b5, 0, rfl, rfl, load_cell (i := 3) isAgg29 rfl rfl, rfl⟩ (.inr ⟨e, _, ys, by simp only [bytesD, hd], he, rfl, rfl, by rw [if_neg he]; exact hb, by omega⟩) (fun w h => (Hp.pickT (A := [_, _, _, _, _]) (T := HX) (is := [0]) (h.perm (List.perm_append_comm (l₂ := [_]))) rfl rfl)) in_src)))
  | (
    refine pn_condF rfl (sk (sq (pn_plain [2] rfl (qm rfl (qm rfl ?_)))))
    have hk := (numD_ok hd).2.1
    refine qq rfl (RD.as (RD.conv runUnderlying128 runUnderlying3 rfl) (by rw [wrap64_id (by omega) (by omega)])) (TE_callT [_, _, _, _] (srcM s v1 HX) rfl rfl rfl trivial call104 rfl rfl rfl hX1 (fun w hs' => c_raw HX s k v1 r w hb1 (by omega) (hs'.hp.left.right (A := [_, _, _, _]))) ?_)
    rintro v25 H3 (⟨b, r2, v2, x, H2, hd2, rfl, hr2, rfl, hb2, hl2⟩ | ⟨e, v2, r2, hd2, he, rfl, rfl, hb2, hl2⟩) hX2
    all_goals refine TE_q rfl rfl (RD.extract rfl rfl) rfl ?_
    all_goals refine TE_q rfl rfl (RD.extract rfl rfl) rfl ?_
    all_goals refine TE_q rfl rfl (RD.assign rfl) rfl ?_
    all_goals refine TE_store (i := 0) rfl sizeOf29 trivial rfl rfl rfl rfl rfl rfl (.inl hb5) ?_
    all_goals refine TE_nil0 ?_
    all_goals refine pn_ret ?_
    all_goals (first | (obtain ⟨a9, c9, rfl⟩ := hb2.shape; exact lv_ret (lv_back (H2 ++ HX) (fun w h => (Hp.pickT (A := [_, _, _, _, _]) (T := H2 ++ HX) (is := [4, 1, 2, 3, 0]) (Hp.perm (A := [_, _, _, _] ++ (H2 ++ srcM s _ HX)) h (List.Perm.append_left _ List.perm_middle)) rfl rfl).perm (List.perm_append_comm (l₁ := [_]))) (hX2 (s, _) (List.mem_append_right _ List.mem_cons_self)) (lv_end rfl ⟨_, _, rfl, rfl, _, _, b5, 0, rfl, rfl, load_cell (i := 3) isAgg29 rfl rfl, rfl⟩ (.inl ⟨b, r2, .slice a9 r2.length c9, x, H2, by simp only [bytesD, hd, hd2], rfl, hr2, rfl, hb2, by omega⟩) (fun w h => Hp.perm (A := (s, .cells #[.slice a9 r2.length c9] 178 (0, 0)) :: (H2 ++ HX)) ((Hp.pickT (A := [_, _, _, _, _]) (T := H2 ++ HX) (is := [0]) (h.perm (List.perm_append_comm (l₂ := [_]))) rfl rfl)) List.perm_middle.symm) (allA (Q := fun k => k ∈ _ ∨ _ ≤ k) (fun e he => (hX2 e (List.mem_append_left _ he)).symm) in_src)))) | (obtain ⟨a9, c9, rfl⟩ := hb2.shape; exact lv_ret (lv_back (HX) (fun w h => (Hp.pickT (A := [_, _, _, _, _]) (T := HX) (is := [4, 1, 2, 3, 0]) (h) rfl rfl).perm (List.perm_append_comm (l₁ := [_]))) (hX2 (s, _) List.mem_cons_self) (lv_end rfl ⟨_, _, rfl, rfl, _, _, b5, 0, rfl, rfl, load_cell (i := 3) isAgg29 rfl rfl, rfl⟩ (.inr ⟨e, _, ys, by simp only [bytesD, hd, hd2], he, rfl, rfl, by rw [if_neg he]; exact hb, by omega⟩) (fun w h => (Hp.pickT (A := [_, _, _, _, _]) (T := HX) (is := [0]) (h.perm (List.perm_append_comm (l₂ := [_]))) rfl rfl)) in_src)))))
  | (
    first | refine pn_condD rfl (fun hc1 => ?_) (fun hc1 => ?_) | refine pn_condN rfl (fun hc1 => ?_) (fun hc1 => ?_) | refine pn_cond rfl (fun hc1 => ?_) (fun hc1 => ?_)
    ·refine sq (pn_drawT [] [0] [1, 2, 3] [_, _, _, _] (srcM s v1 HX) rfl rfl (by kernel_rfl) (by kernel_rfl) rfl rfl (ql rfl (RD.load (i := 0) isAgg29 rfl rfl rfl) (qa rfl (TE_store (i := 0) rfl sizeOf29 trivial rfl rfl rfl rfl rfl rfl (.inl hb5) (TE_nil (rt ?_))))))
     obtain ⟨a9, c9, rfl⟩ := hb1.shape; exact lv_ret (lv_back (HX) (fun w h => (Hp.pickT (A := [_, _, _, _, _]) (T := HX) (is := [4, 1, 2, 3, 0]) (h) rfl rfl).perm (List.perm_append_comm (l₁ := [_]))) (hX1 (s, _) List.mem_cons_self) (lv_end rfl ⟨_, _, rfl, rfl, _, _, b5, 0, rfl, rfl, load_cell (i := 3) isAgg29 rfl rfl, rfl⟩ (.inr ⟨e, _, ys, by simp only [bytesD, hd], he, rfl, rfl, by rw [if_neg he]; exact hb, by omega⟩) (fun w h => (Hp.pickT (A := [_, _, _, _, _]) (T := HX) (is := [0]) (h.perm (List.perm_append_comm (l₂ := [_]))) rfl rfl)) in_src))
    ·refine sk (sq (pn_plain [2] rfl (qm rfl (qm rfl ?_))))
     have hk := (numD_ok hd).2.1
     refine qq rfl (RD.as (RD.conv runUnderlying128 runUnderlying3 rfl) (by rw [wrap64_id (by omega) (by omega)])) (TE_callT [_, _, _, _] (srcM s v1 HX) rfl rfl rfl trivial call104 rfl rfl rfl hX1 (fun w hs' => c_raw HX s k v1 r w hb1 (by omega) (hs'.hp.left.right (A := [_, _, _, _]))) ?_)
     rintro v25 H3 (⟨b, r2, v2, x, H2, hd2, rfl, hr2, rfl, hb2, hl2⟩ | ⟨e, v2, r2, hd2, he, rfl, rfl, hb2, hl2⟩) hX2
     all_goals refine TE_q rfl rfl (RD.extract rfl rfl) rfl ?_
     all_goals refine TE_q rfl rfl (RD.extract rfl rfl) rfl ?_
     all_goals refine TE_q rfl rfl (RD.assign rfl) rfl ?_
     all_goals refine TE_store (i := 0) rfl sizeOf29 trivial rfl rfl rfl rfl rfl rfl (.inl hb5) ?_
     all_goals refine TE_nil0 ?_
     all_goals refine pn_ret ?_
     all_goals (first | (obtain ⟨a9, c9, rfl⟩ := hb2.shape; exact lv_ret (lv_back (H2 ++ HX) (fun w h => (Hp.pickT (A := [_, _, _, _, _]) (T := H2 ++ HX) (is := [4, 1, 2, 3, 0]) (Hp.perm (A := [_, _, _, _] ++ (H2 ++ srcM s _ HX)) h (List.Perm.append_left _ List.perm_middle)) rfl rfl).perm (List.perm_append_comm (l₁ := [_]))) (hX2 (s, _) (List.mem_append_right _ List.mem_cons_self)) (lv_end rfl ⟨_, _, rfl, rfl, _, _, b5, 0, rfl, rfl, load_cell (i := 3) isAgg29 rfl rfl, rfl⟩ (.inl ⟨b, r2, .slice a9 r2.length c9, x, H2, by simp only [bytesD, hd, hd2], rfl, hr2, rfl, hb2, by omega⟩) (fun w h => Hp.perm (A := (s, .cells #[.slice a9 r2.length c9] 178 (0, 0)) :: (H2 ++ HX)) ((Hp.pickT (A := [_, _, _, _, _]) (T := H2 ++ HX) (is := [0]) (h.perm (List.perm_append_comm (l₂ := [_]))) rfl rfl)) List.perm_middle.symm) (allA (Q := fun k => k ∈ _ ∨ _ ≤ k) (fun e he => (hX2 e (List.mem_append_left _ he)).symm) in_src)))) | (obtain ⟨a9, c9, rfl⟩ := hb2.shape; exact lv_ret (lv_back (HX) (fun w h => (Hp.pickT (A := [_, _, _, _, _]) (T := HX) (is := [4, 1, 2, 3, 0]) (h) rfl rfl).perm (List.perm_append_comm (l₁ := [_]))) (hX2 (s, _) List.mem_cons_self) (lv_end rfl ⟨_, _, rfl, rfl, _, _, b5, 0, rfl, rfl, load_cell (i := 3) isAgg29 rfl rfl, rfl⟩ (.inr ⟨e, _, ys, by simp only [bytesD, hd, hd2], he, rfl, rfl, by rw [if_neg he]; exact hb, by omega⟩) (fun w h => (Hp.pickT (A := [_, _, _, _, _]) (T := HX) (is := [0]) (h.perm (List.perm_append_comm (l₂ := [_]))) rfl rfl)) in_src)))))
end Go.Proofs.YtcmnmigcalibdaaGreatDoor

namespace Go.Proofs.YtcmnmigcalibdaaGreatDoor
open Go Go.Mv
set_option maxRecDepth 8000
theorem elByteR : ElI Tryz.prog 5 1 1 (.int .u8 0) := by unfold ElI; kernel_rfl
end Go.Proofs.YtcmnmigcalibdaaGreatDoor

namespace Go.Proofs.YtcmnmigcalibdaaGreatDoor
open Go Go.Mv
set_option maxRecDepth 8000
theorem take_zero {l : List Int} {i : Nat} (hi : i < l.length) (h : ∀ y ∈ l.take i, y = 0) (hx : l[i] = 0) : ∀ y ∈ l.take (i + 1), y = 0 := fun y hy => by
  rw [List.take_succ_eq_append_getElem hi] at hy
  rcases List.mem_append.1 hy with hy | hy
  · exact h y hy
  · simp only [List.mem_cons, List.not_mem_nil, or_false] at hy; rw [hy]; exact hx

end Go.Proofs.YtcmnmigcalibdaaGreatDoor

namespace Go.Proofs.YtcmnmigcalibdaaGreatDoor
open Go Go.Mv
set_option maxRecDepth 8000
/-- The dots that were met. -/
def MetOk (ds : List (Int × Int)) (l : List (ME (Int × Int) Int)) : Prop := ∀ k, mget k l = if k ∈ ds then some 1 else none
theorem MetOk.nil : MetOk [] [] := fun k => by simp [mget, mpos]
theorem MetOk.get {ds : List (Int × Int)} {l : List (ME (Int × Int) Int)} (h : MetOk ds l) (k : Int × Int) : (mget k l).getD 0 = if k ∈ ds then 1 else 0 := by
  rw [h k]; split <;> rfl
theorem MetOk.put {ds : List (Int × Int)} {l : List (ME (Int × Int) Int)} {c : Nat} (h : MetOk ds l) {k : Int × Int} (hk : k ∉ ds) : MetOk (ds ++ [k]) (mput k ((mget k l).getD 0 + 1) l c).1 := fun k' => by
  rw [mget_put, h.get, if_neg hk]
  by_cases h' : k' = k
  · subst h'; simp
  · rw [if_neg h', h k']; simp [h']

end Go.Proofs.YtcmnmigcalibdaaGreatDoor

namespace Go.Proofs.YtcmnmigcalibdaaGreatDoor
open Go Go.Mv Go.ChangeShapes
set_option maxRecDepth 100000
theorem has_u8 {n : Int} (h : IntKind.u8.has n) : 0 ≤ n ∧ n ≤ 255 := by simpa [IntKind.has, IntKind.min, IntKind.max, IntKind.signed, IntKind.bits] using h
section trod
variable {H : Type} {enc : TypeId × Value → H} {P : Program} {w : World} {base : Nat} {spare : Nat → Bool} {held : Bool}
theorem mapM_some {α β : Type} {f : α → Option β} : ∀ {l : List α} {r : List β}, l.mapM f = some r → ∀ a ∈ l, ∃ b, f a = some b
  | [], _, _, a, ha => by simp at ha
  | x :: l, r, h, a, ha => by
    simp only [List.mapM_cons, Option.bind_eq_bind, Option.bind_eq_some_iff, Option.pure_def, Option.some.injEq] at h
    obtain ⟨y, hy, ys, hys, _⟩ := h
    rcases List.mem_cons.1 ha with rfl | ha
    · exact ⟨y, hy⟩
    · exact mapM_some hys a ha
theorem mapM_at {β : Type} {f : Nat → Option β} : ∀ {n : Nat} {r : List β}, (List.range n).mapM f = some r → ∀ i, i < n → f i = r[i]?
  | n, r, h, i, hi => by
    have h2 : ∀ {l : List Nat} {r : List β}, l.mapM f = some r → ∀ (i : Nat) (a : Nat), l[i]? = some a → f a = r[i]? := by
      intro l
      induction l with
      | nil => intro r _ i a ha; simp at ha
      | cons x l ih =>
        intro r h i a ha
        simp only [List.mapM_cons, Option.bind_eq_bind, Option.bind_eq_some_iff, Option.pure_def, Option.some.injEq] at h
        obtain ⟨y, hy, ys, hys, rfl⟩ := h
        cases i with
        | zero => simp only [List.getElem?_cons_zero, Option.some.injEq] at ha ⊢; rw [← ha]; exact hy
        | succ i => rw [List.getElem?_cons_succ] at ha ⊢; exact ih hys i a ha
    exact h2 h i i (by simp [hi])
/-- A struct's field. -/
theorem trod_field {n : Nat} {t : TypeId} {cs : List Value} {x : DataW H × List MemPlace} {fs : Array Field} (ht : P.underlying t = some (.struct fs)) (h : DataW.trod enc P w base spare held n t cs = some x) :
    cs.length = P.cellsOf t ∧ ∀ (j : Nat) (f : Field), fs[j]? = some f → ∃ m y, DataW.trod enc P w base spare held m f.type ((cs.drop f.offset).take (P.cellsOf f.type)) = some y := by
  cases n with
  | zero => simp [DataW.trod] at h
  | succ n =>
    unfold DataW.trod at h
    rw [ht] at h
    simp only at h
    split at h
    · rename_i hl
      cases hm : (fs.toList.mapM fun f => DataW.trod enc P w base spare held n f.type ((cs.drop f.offset).take (P.cellsOf f.type))) with
      | none => rw [hm] at h; simp at h
      | some xs => exact ⟨hl, fun j f hf => ⟨n, mapM_some hm f (by simpa using Array.mem_of_getElem? hf)⟩⟩
    · cases h
theorem wf_has {k : IntKind} {n : Int} (h : (Lit.int k n).wf = true) : k.has n := by simpa [Lit.wf, IntKind.has] using h
theorem at0 {l : List Value} {o n : Nat} {v : Value} (h : (l.drop o).take n = [v]) : l[o]? = some v := by
  have := congrArg (fun l : List Value => l[0]?) h
  simp only [List.getElem?_cons_zero] at this
  rw [← this, List.getElem?_take, List.getElem?_drop]
  split
  · rfl
  · rename_i hn
    have : n = 0 := by omega
    subst this; simp at h
end trod
theorem build_list {α : Type} {ok : α → Prop} {Q : Nat → α → Prop} : ∀ {n : Nat}, (∀ i, i < n → ∃ x, ok x ∧ Q i x) → ∃ l : List α, l.length = n ∧ (∀ x ∈ l, ok x) ∧ ∀ i x, l[i]? = some x → Q i x
  | 0, _ => ⟨[], rfl, by simp, by simp⟩
  | k + 1, each => by
    obtain ⟨l, h1, h2, h3⟩ := build_list (n := k) (fun i hi => each i (by omega))
    obtain ⟨x, hx, hxc⟩ := each k (by omega)
    refine ⟨l ++ [x], by simp [h1], fun y hy => ?_, fun i y hi => ?_⟩
    · rcases List.mem_append.1 hy with hy | hy
      · exact h2 y hy
      · simp only [List.mem_cons, List.not_mem_nil, or_false] at hy; subst hy; exact hx
    · by_cases hik : i < l.length
      · rw [List.getElem?_append_left hik] at hi; exact h3 i y hi
      · rw [List.getElem?_append_right (by omega)] at hi
        have h0 : i - l.length = 0 := by
          have := (List.getElem?_eq_some_iff.1 hi).1
          simp at this; omega
        rw [h0] at hi
        simp only [List.getElem?_cons_zero, Option.some.injEq] at hi
        subst hi
        have : i = k := by omega
        subst this; exact hxc
end Go.Proofs.YtcmnmigcalibdaaGreatDoor
