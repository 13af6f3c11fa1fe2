import Derived.Test.YthagkkmbbncclaaDoorR12d
namespace Go.Proofs.YthagkkmbbncclaaDoor
open Go Go.Mv
set_option maxRecDepth 8000
def encL (r : Rec) : List UInt8 := bif recOkB r then recL r else []
theorem encL_len {r : Rec} (h : VecOk r.ctx) : (encL r).length ≤ 2147484700 := by
  cases hk : recOkB r with
  | true => simp only [encL, hk, cond_true]; exact recL_le hk h
  | false => simp [encL, hk]
theorem enc_uni {r : Rec} {v : Value} {H1 : Mem} (h : (recOkB r = true ∧ ∃ x, v = .tuple #[x, .int .i64 0] ∧ RetB 5 x H1 (recL r)) ∨ (recOkB r = false ∧ v = .tuple #[.slice none 0 0, .int .i64 120] ∧ H1 = [])) : ∃ x, v = .tuple #[x, .int .i64 (err (recOkB r) 120)] ∧ RetB 5 x H1 (encL r) := by
  rcases h with ⟨hk, x, rfl, hx⟩ | ⟨hk, rfl, rfl⟩
  · exact ⟨x, by rw [hk]; rfl, by simpa only [encL, hk, cond_true] using hx⟩
  · exact ⟨_, by rw [hk]; rfl, .inr ⟨rfl, rfl, by simp only [encL, hk, cond_false]⟩⟩
def decQ : Dr Rec → Rec
  | .ok q _ => q
  | .err _ => zeroR
def decE : Dr Rec → Int
  | .ok _ _ => 0
  | .err e => e
def decR : Dr Rec → Nat
  | .ok _ r => r.length
  | .err _ => 0
theorem dec_uni {HX : Mem} {s : Nat} {ys : List UInt8} {d : Dr Rec} {v : Value} {H1 : Mem} (h : Reads HX s recV (recV zeroR) ys d v H1) : ∃ v' r, v = .tuple #[recV (decQ d), .int .i64 (decE d)] ∧ H1 = srcM s v' HX ∧ Rdb HX v' r ∧ (decE d = 0 → r.length = decR d) := by
  rcases h with ⟨q, r, v', rfl, rfl, rfl, hq, _⟩ | ⟨e, v', r, rfl, he, rfl, rfl, hq, _⟩
  · exact ⟨v', r, rfl, rfl, hq, fun _ => rfl⟩
  · exact ⟨v', r, rfl, rfl, hq, fun h => absurd h he⟩
theorem rdec_uni {HX : Mem} {s : Nat} {ys : List UInt8} {d : Dr Rec} {v : Value} {H1 : Mem} (h : RReads HX s recV (recV zeroR) ys d v H1) : ∃ v' r, v = .tuple #[recV (decQ d), .int .i64 (decE d)] ∧ H1 = rsrcM s v' HX ∧ Rdb HX v' r ∧ (decE d = 0 → r.length = decR d) := by
  rcases h with ⟨q, r, v', rfl, rfl, rfl, hq, _⟩ | ⟨e, v', r, rfl, he, rfl, rfl, hq, _⟩
  · exact ⟨v', r, rfl, rfl, hq, fun _ => rfl⟩
  · exact ⟨v', r, rfl, rfl, hq, fun h => absurd h he⟩
theorem Hp.m2 {A B D X : Mem} {w : World} (h : Hp (A ++ (B ++ (D ++ X))) w) : Hp (D ++ (A ++ (B ++ X))) w := by
  rw [← List.append_assoc] at h
  have h2 : Hp (D ++ ((A ++ B) ++ X)) w := h.perm (by rw [← List.append_assoc, ← List.append_assoc]; exact List.Perm.append_right X List.perm_append_comm)
  rwa [List.append_assoc] at h2
theorem build_rsrc (a : Option Addr) (n c : Nat) (w : World) : (Instr.build 41 #[(0, .slice a n c)]).run Tryd.prog w = .ok (.agg #[.slice a n c]) w := by
  simp [Instr.build, Tryd.zeroValue41, Tryd.runUnderlying41, Tryd.sizeOf35, Value.cells, Instr.fill]

set_option maxHeartbeats 4000000 in

theorem c_RecordForms (HA : Mem) (r : Rec) (v1 : Value) (b : List UInt8) (g : Obj) (w : World) (hr : RecOk r) (hb : Rdb ((0, g) :: HA) v1 b) (hblen : b.length ≤ 9223372036854775807) (hg : GOk g) (hH : Hp ((0, g) :: HA) w) : Calls Tryd.prog 4 #[recV r, v1] w (Ret w [] fun v H1 => v = .bool true ∧ H1 = []) := by
  refine fn_enter (args := [_, _]) Tryd.func4 rfl Tryd.ntmps4 rfl hH ?_
  refine pn_seq ?_
  refine pn_plain [] rfl ?_
  refine TE_box rfl rfl trivial rfl fun b2 hb2 => ?_
  refine TE_q rfl rfl (RD.assign rfl) rfl ?_
  refine TE_nil0 ?_
  refine pn_seq ?_
  refine pn_seq ?_
  refine pn_cut (σ := Unit) (fun _ => [(24, .bool (decide (300 < r.ref.size ∨ 400 < b.length))), (2, .pointer (some ⟨b2, 0, none⟩)), (1, v1)]) (fun _ => (b2, .cells (recV r).cells 30 (0, 0)) :: (0, g) :: HA) (fun _ => True) ?_ ?_
  · refine pn_plain [2, 6] rfl ?_
    refine TE_q rfl rfl (RD.fieldAddr (o := 18) Tryd.runUnderlying30 rfl rfl Tryd.sizeOf9 rfl) rfl ?_
    refine TE_l rfl rfl trivial rfl (RD.load (i := 0) Tryd.isAgg9 rfl rfl rfl) rfl ?_
    refine TE_q rfl rfl (RD.len_string Tryd.runUnderlying9 rfl) rfl ?_
    refine TE_q rfl rfl (RD.gtr rfl rfl) rfl ?_
    refine TE_q rfl rfl (RD.move rfl) rfl ?_
    (first | refine TE_isT ?_ | refine TE_isF ?_ | refine TE_dec (fun h104 => ?_) (fun h104 => ?_) | refine TE_ndec (fun h104 => ?_) (fun h104 => ?_) | refine TE_bool (fun h104 => ?_) (fun h104 => ?_))
    all_goals (first | (refine TE_s rfl rfl rfl rfl rfl ?_) | (refine TE_gq rfl rfl rfl rfl (RD.move rfl) rfl ?_))
    all_goals (first | (refine TE_s rfl rfl rfl rfl rfl ?_) | (refine TE_gq rfl rfl rfl rfl (RD.lenR Tryd.runUnderlying35 rfl hb) rfl ?_))
    all_goals (first | (refine TE_s rfl rfl rfl rfl rfl ?_) | (refine TE_gq rfl rfl rfl rfl (RD.gtr rfl rfl) rfl ?_))
    all_goals (first | (refine TE_q rfl rfl (RD.pickT rfl rfl) rfl ?_) | (refine TE_q rfl rfl (RD.pickF rfl rfl) rfl ?_))
    all_goals refine TE_nil0 ?_
    all_goals (first | (have hF : (300 < r.ref.size ∨ 400 < b.length) := (by omega); exact pn_give () trivial ⟨by rw [decide_eq_true hF]; rfl, rfl, rfl, trivial⟩ (fun w h => h)) | (have hF : ¬ (300 < r.ref.size ∨ 400 < b.length) := (by omega); exact pn_give () trivial ⟨by rw [decide_eq_false hF]; rfl, rfl, rfl, trivial⟩ (fun w h => h)) | (have hF : (300 < r.ref.size ∨ 400 < b.length) ↔ (400 : Int) < (b.length : Int) := (by omega); exact pn_give () trivial ⟨by rw [decide_eq_decide.2 hF]; rfl, rfl, rfl, trivial⟩ (fun w h => h)))
  rintro - -
  first | refine pn_condD rfl (fun hc0 => ?_) (fun hc0 => ?_) | refine pn_condN rfl (fun hc0 => ?_) (fun hc0 => ?_) | refine pn_cond rfl (fun hc0 => ?_) (fun hc0 => ?_)
  · refine pn_seq ?_
    refine pn_plain [] rfl ?_
    refine TE_q rfl rfl (RD.assign rfl) rfl ?_
    refine TE_nil0 ?_
    refine pn_ret ?_
    exact pn_done rfl rfl ⟨rfl, rfl⟩ (List.nil_sublist _) (by simp)
  · refine pn_skip ?_
    refine pn_seq ?_
    refine pn_plain [] rfl ?_
    refine TE_q rfl rfl (RD.move rfl) rfl ?_
    refine TE_call rfl rfl trivial Tryd.call13 rfl rfl rfl (fun w hs' => c_rTwin ((0, g) :: HA) v1 b w hb.bytes (by omega) (hs'.hp.left.sub (List.sublist_cons_self _ _))) ?_
    rintro v26 H1 hr1 hX1
    refine TE_q rfl rfl (RD.assign rfl) rfl ?_
    refine TE_nil0 ?_
    refine pn_seq ?_
    refine pn_plain [] rfl ?_
    refine TE_q rfl rfl (RD.move rfl) rfl ?_
    refine TE_call rfl rfl trivial Tryd.call14 rfl rfl rfl (fun w hs' => c_from H1 _ b w hr1.bytes (by omega) hs'.hp.left.left) ?_
    rintro v28 HF ⟨s, sv, H2, rfl, rfl, hsb⟩ hX2
    refine TE_q rfl rfl (RD.move rfl) rfl ?_
    refine TE_call rfl rfl trivial Tryd.call13 rfl rfl rfl (fun w hs' => c_rTwin ((0, g) :: HA) v1 b w hb.bytes (by omega) (hs'.hp.left.right.right.sub (List.sublist_cons_self _ _))) ?_
    rintro v30 H3 hr3 hX3; obtain ⟨a3, c3, rfl⟩ := hr3.rdb.shape
    refine TE_q rfl rfl (RD.build rfl (build_rsrc _ _ _)) rfl ?_
    refine TE_box rfl rfl trivial rfl fun b32 hb32 => ?_
    refine TE_q rfl rfl (RD.assign rfl) rfl ?_
    refine TE_q rfl rfl (RD.assign rfl) rfl ?_
    refine TE_nil0 ?_
    refine pn_seq ?_
    refine pn_perm ((b2, .cells (recV r).cells 30 (0, 0)) :: (0, g) :: (HA ++ (H1 ++ (rsrcM b32 (.slice a3 b.length c3) H3 ++ srcM s sv H2)))) (fun w h => Hp.perm h (by simp only [srcM, rsrcM]; simp only [List.cons_append]; classical exact List.perm_iff_count.2 fun a => by simp only [List.count_append, List.count_cons]; ac_rfl)) ?_
    refine pn_plain [] rfl ?_
    refine TE_l rfl rfl trivial rfl (RD.loadA (v := recV r) (i := 0) Tryd.isAgg30 Tryd.sizeOf30 rfl rfl (Nat.le_of_ble_eq_true rfl) (rec_all _)) rfl ?_
    refine TE_call rfl rfl trivial Tryd.call15 rfl rfl rfl (fun w hs' => c_recEncode r g w hr hg (by omega) (hs'.hp.left.sub (.cons _ (.cons_cons _ (List.nil_sublist _))))) ?_
    rintro v35 H5 hpx hX5; obtain ⟨x, rfl, hx⟩ := enc_uni hpx
    refine TE_q rfl rfl (RD.move rfl) rfl ?_
    refine TE_q rfl rfl (RD.extract rfl rfl) rfl ?_
    refine TE_q rfl rfl (RD.extract rfl rfl) rfl ?_
    refine TE_q rfl rfl (RD.assign rfl) rfl ?_
    refine TE_q rfl rfl (RD.assign rfl) rfl ?_
    refine TE_nil0 ?_
    refine pn_seq ?_
    refine pn_perm ((b2, .cells (recV r).cells 30 (0, 0)) :: (0, g) :: (HA ++ (H5 ++ (H1 ++ (rsrcM b32 (.slice a3 b.length c3) H3 ++ srcM s sv H2))))) (fun w h => Hp.perm h (by simp only [srcM, rsrcM]; simp only [List.cons_append]; classical exact List.perm_iff_count.2 fun a => by simp only [List.count_append, List.count_cons]; ac_rfl)) ?_
    refine pn_plain [] rfl ?_
    refine TE_l rfl rfl trivial rfl (RD.loadA (v := recV r) (i := 0) Tryd.isAgg30 Tryd.sizeOf30 rfl rfl (Nat.le_of_ble_eq_true rfl) (rec_all _)) rfl ?_
    refine TE_call rfl rfl trivial Tryd.call16 rfl rfl rfl (fun w hs' => c_r12Enc r w hr) ?_
    rintro v40 H6 hpy hX6; obtain ⟨y, rfl, hy⟩ := enc_uni hpy
    refine TE_q rfl rfl (RD.move rfl) rfl ?_
    refine TE_q rfl rfl (RD.extract rfl rfl) rfl ?_
    refine TE_q rfl rfl (RD.extract rfl rfl) rfl ?_
    refine TE_q rfl rfl (RD.assign rfl) rfl ?_
    refine TE_q rfl rfl (RD.assign rfl) rfl ?_
    refine TE_nil0 ?_
    refine pn_seq ?_
    refine pn_perm ((b2, .cells (recV r).cells 30 (0, 0)) :: (0, g) :: ((HA ++ (H6 ++ (H5 ++ H1))) ++ (rsrcM b32 (.slice a3 b.length c3) H3 ++ srcM s sv H2))) (fun w h => Hp.perm h (by simp only [srcM, rsrcM]; simp only [List.append_assoc, List.cons_append]; classical exact List.perm_iff_count.2 fun a => by simp only [List.count_append, List.count_cons]; ac_rfl)) ?_
    refine pn_plain [] rfl ?_
    refine TE_q rfl rfl (RD.move rfl) rfl ?_
    refine TE_callT ((b2, .cells (recV r).cells 30 (0, 0)) :: (0, g) :: ((HA ++ (H6 ++ (H5 ++ H1))) ++ rsrcM b32 (.slice a3 b.length c3) H3)) (srcM s sv H2) (by simp) rfl rfl trivial Tryd.call17 rfl rfl rfl (fun e he => .inl (hX2 e he)) (fun w hs' => c_recDec H2 s sv b g w hsb (by omega) hg (hs'.hp.left.sub (.cons _ (.cons_cons _ (List.sublist_append_right ((HA ++ (H6 ++ (H5 ++ H1))) ++ rsrcM b32 (.slice a3 b.length c3) H3) _))))) ?_
    rintro v45 H7 hpd hX7; obtain ⟨vq, rq, rfl, rfl, hqq, hlq⟩ := dec_uni hpd
    refine TE_q rfl rfl (RD.move rfl) rfl ?_
    refine TE_q rfl rfl (RD.extract rfl rfl) rfl ?_
    refine TE_q rfl rfl (RD.extract rfl rfl) rfl ?_
    refine TE_alloc rfl Tryd.zeroValue30 trivial rfl fun b12 hb12 => ?_
    refine TE_put (i := 0) rfl Tryd.sizeOf30 trivial rfl rfl rfl rfl rfl rfl (.inl (by assumption)) ?_
    refine TE_q rfl rfl (RD.assign rfl) rfl ?_
    refine TE_nil0 ?_
    refine pn_seq ?_
    refine pn_perm ((b12, .cells (putL (recV zeroR).cells 0 (recV (decQ (recD b))).cells.toList) 30 (0, 0)) :: (b2, .cells (recV r).cells 30 (0, 0)) :: (0, g) :: ((HA ++ (H6 ++ (H5 ++ H1))) ++ (srcM s vq H2 ++ rsrcM b32 (.slice a3 b.length c3) H3))) (fun w h => Hp.perm (A := (b12, .cells (putL (recV zeroR).cells 0 (recV (decQ (recD b))).cells.toList) 30 (0, 0)) :: ((b2, .cells (recV r).cells 30 (0, 0)) :: (0, g) :: ((HA ++ (H6 ++ (H5 ++ H1))) ++ rsrcM b32 (.slice a3 b.length c3) H3) ++ srcM s vq H2)) h (by simp only [srcM, rsrcM]; simp only [List.append_assoc, List.cons_append]; classical exact List.perm_iff_count.2 fun a => by simp only [List.count_append, List.count_cons]; ac_rfl)) ?_
    refine pn_plain [] rfl ?_
    refine TE_q rfl rfl (RD.move rfl) rfl ?_
    refine TE_callT ((b12, .cells (putL (recV zeroR).cells 0 (recV (decQ (recD b))).cells.toList) 30 (0, 0)) :: (b2, .cells (recV r).cells 30 (0, 0)) :: (0, g) :: ((HA ++ (H6 ++ (H5 ++ H1))) ++ srcM s vq H2)) (rsrcM b32 (.slice a3 b.length c3) H3) (by simp) rfl rfl trivial Tryd.call18 rfl rfl rfl (fun e he => .inl (allC hb32 hX3 e he)) (fun w hs' => c_r12Dec H3 b32 _ b w hr3.rdb (by omega) hs'.hp.left.right) ?_
    rintro v50 H8 hpr hX8; obtain ⟨vr, rr, rfl, rfl, hqr, hlr⟩ := rdec_uni hpr
    refine TE_q rfl rfl (RD.move rfl) rfl ?_
    refine TE_q rfl rfl (RD.extract rfl rfl) rfl ?_
    refine TE_q rfl rfl (RD.extract rfl rfl) rfl ?_
    refine TE_alloc rfl Tryd.zeroValue30 trivial rfl fun b14 hb14 => ?_
    refine TE_put (i := 0) rfl Tryd.sizeOf30 trivial rfl rfl rfl rfl rfl rfl (.inl (by assumption)) ?_
    refine TE_q rfl rfl (RD.assign rfl) rfl ?_
    refine TE_nil0 ?_
    refine pn_seq ?_
    refine pn_perm ((b14, .cells (putL (recV zeroR).cells 0 (recV (decQ (recD b))).cells.toList) 30 (0, 0)) :: (b12, .cells (putL (recV zeroR).cells 0 (recV (decQ (recD b))).cells.toList) 30 (0, 0)) :: (b2, .cells (recV r).cells 30 (0, 0)) :: (0, g) :: (b32, .cells #[vr] 41 (0, 0)) :: (H3 ++ ((HA ++ (H6 ++ (H5 ++ H1))) ++ srcM s vq H2))) (fun w h => Hp.perm (A := (b14, .cells (putL (recV zeroR).cells 0 (recV (decQ (recD b))).cells.toList) 30 (0, 0)) :: ((b12, .cells (putL (recV zeroR).cells 0 (recV (decQ (recD b))).cells.toList) 30 (0, 0)) :: (b2, .cells (recV r).cells 30 (0, 0)) :: (0, g) :: ((HA ++ (H6 ++ (H5 ++ H1))) ++ srcM s vq H2) ++ rsrcM b32 vr H3)) h (by simp only [srcM, rsrcM]; simp only [List.append_assoc, List.cons_append]; classical exact List.perm_iff_count.2 fun a => by simp only [List.count_append, List.count_cons]; ac_rfl)) ?_
    refine pn_drawT [1, 3, 11, 12, 29, 30, 35, 37, 43, 45] [] [0, 1, 2, 3, 4] [_, _, _, _, _] (H3 ++ ((HA ++ (H6 ++ (H5 ++ H1))) ++ srcM s vq H2)) rfl rfl (by kernel_rfl) (by kernel_rfl) rfl rfl ?_
    refine TE_q rfl rfl (RD.move rfl) rfl ?_
    refine TE_q rfl rfl (RD.str_of_bytes Tryd.underlying35 Tryd.underlying9 Tryd.underlying5 rfl (hx.bytes.mono (fun w h => h.sub ((.cons _ (.cons _ (.cons _ (.cons _ (.cons _ (show List.Sublist _ (H3 ++ ((HA ++ (H6 ++ (H5 ++ H1))) ++ srcM s vq H2)) from List.sublist_append_of_sublist_right (List.sublist_append_of_sublist_left (List.sublist_append_of_sublist_right (List.sublist_append_of_sublist_right (List.sublist_append_left _ _)))))))))))))) rfl ?_
    refine TE_q rfl rfl (RD.move rfl) rfl ?_
    refine TE_q rfl rfl (RD.str_of_bytes Tryd.underlying35 Tryd.underlying9 Tryd.underlying5 rfl (hy.bytes.mono (fun w h => h.sub ((.cons _ (.cons _ (.cons _ (.cons _ (.cons _ (show List.Sublist _ (H3 ++ ((HA ++ (H6 ++ (H5 ++ H1))) ++ srcM s vq H2)) from List.sublist_append_of_sublist_right (List.sublist_append_of_sublist_left (List.sublist_append_of_sublist_right (List.sublist_append_left _ _))))))))))))) rfl ?_
    refine TE_q rfl rfl (RD.as (v := .bool true) (RD.eql_string rfl rfl) (by simp)) rfl ?_
    refine TE_q rfl rfl (RD.move rfl) rfl ?_
    refine TE_isT ?_
    first | (refine TE_s rfl rfl rfl rfl rfl ?_) | (refine TE_gq rfl rfl rfl rfl (RD.move rfl) rfl ?_)
    first | (refine TE_s rfl rfl rfl rfl rfl ?_) | (refine TE_gq rfl rfl rfl rfl (RD.move rfl) rfl ?_)
    first | (refine TE_s rfl rfl rfl rfl rfl ?_) | (refine TE_gq rfl rfl rfl rfl (RD.as (v := .bool true) (RD.eql rfl rfl) (by simp)) rfl ?_)
    first | (refine TE_q rfl rfl (RD.pickT rfl rfl) rfl ?_) | (refine TE_q rfl rfl (RD.pickF rfl rfl) rfl ?_)
    refine TE_q rfl rfl (RD.move rfl) rfl ?_
    refine TE_isT ?_
    first | (refine TE_s rfl rfl rfl rfl rfl ?_) | (refine TE_gq rfl rfl rfl rfl (RD.loadA (v := recV (decQ (recD b))) (i := 1) Tryd.isAgg30 Tryd.sizeOf30 rfl rfl (by rw [size_putL]; exact Nat.le_of_ble_eq_true rfl) (put_agg rfl rfl rfl rfl)) rfl ?_)
    first | (refine TE_s rfl rfl rfl rfl rfl ?_) | (refine TE_gq rfl rfl rfl rfl (RD.loadA (v := recV (decQ (recD b))) (i := 0) Tryd.isAgg30 Tryd.sizeOf30 rfl rfl (by rw [size_putL]; exact Nat.le_of_ble_eq_true rfl) (put_agg rfl rfl rfl rfl)) rfl ?_)
    first | (refine TE_s rfl rfl rfl rfl rfl ?_) | (refine TE_gq rfl rfl rfl rfl (RD.as (v := .bool true) (RD.eql_agg Tryd.eqGuardType30 (eq_rec _ _) rfl rfl) (by rw [sameRB_self])) rfl ?_)
    first | (refine TE_q rfl rfl (RD.pickT rfl rfl) rfl ?_) | (refine TE_q rfl rfl (RD.pickF rfl rfl) rfl ?_)
    refine TE_q rfl rfl (RD.move rfl) rfl ?_
    refine TE_isT ?_
    first | (refine TE_s rfl rfl rfl rfl rfl ?_) | (refine TE_gq rfl rfl rfl rfl (RD.move rfl) rfl ?_)
    first | (refine TE_s rfl rfl rfl rfl rfl ?_) | (refine TE_gq rfl rfl rfl rfl (RD.move rfl) rfl ?_)
    first | (refine TE_s rfl rfl rfl rfl rfl ?_) | (refine TE_gq rfl rfl rfl rfl (RD.as (v := .bool true) (RD.eql rfl rfl) (by simp)) rfl ?_)
    first | (refine TE_q rfl rfl (RD.pickT rfl rfl) rfl ?_) | (refine TE_q rfl rfl (RD.pickF rfl rfl) rfl ?_)
    refine TE_q rfl rfl (RD.move rfl) rfl ?_
    refine TE_isT ?_
    first | (refine TE_s rfl rfl rfl rfl rfl ?_) | (refine TE_gq rfl rfl rfl rfl (RD.move rfl) rfl ?_)
    first | (refine TE_s rfl rfl rfl rfl rfl ?_) | (refine TE_gq rfl rfl rfl rfl (RD.neq rfl rfl) rfl ?_)
    first | (refine TE_s rfl rfl rfl rfl rfl ?_) | (refine TE_gq rfl rfl rfl rfl (RD.move rfl) rfl ?_)
    (first | refine TE_isT ?_ | refine TE_isF ?_ | refine TE_dec (fun h923 => ?_) (fun h923 => ?_) | refine TE_ndec (fun h923 => ?_) (fun h923 => ?_) | refine TE_bool (fun h923 => ?_) (fun h923 => ?_) | skip)
    all_goals (first | (refine TE_s rfl rfl rfl rfl rfl ?_) | (refine TE_su rfl rfl rfl rfl ?_) | (refine TE_gq rfl rfl rfl rfl (RD.move rfl) rfl ?_))
    all_goals (first | (refine TE_s rfl rfl rfl rfl rfl ?_) | (refine TE_su rfl rfl rfl rfl ?_) | ((refine TE_call rfl rfl ⟨_, rfl, rfl⟩ Tryd.call19 rfl rfl rfl (fun w hs' => c_left H2 s vq rq w hqq (hs'.hp.sub ((.cons _ (.cons _ (.cons _ (.cons _ (.cons _ (show List.Sublist _ (H3 ++ ((HA ++ (H6 ++ (H5 ++ H1))) ++ srcM s vq H2)) from List.sublist_append_of_sublist_right (List.sublist_append_right _ _)))))))))) ?_; rintro v78 H25 ⟨rfl, rfl⟩ -)))
    all_goals (first | (refine TE_s rfl rfl rfl rfl rfl ?_) | (refine TE_su rfl rfl rfl rfl ?_) | (refine TE_gq rfl rfl rfl rfl (RD.move rfl) rfl ?_))
    all_goals (first | (refine TE_s rfl rfl rfl rfl rfl ?_) | (refine TE_su rfl rfl rfl rfl ?_) | (refine TE_gq rfl rfl rfl rfl (RD.nilCheckP rfl) rfl ?_))
    all_goals (first | (refine TE_s rfl rfl rfl rfl rfl ?_) | (refine TE_su rfl rfl rfl rfl ?_) | (refine TE_gq rfl rfl rfl rfl (RD.fieldAddr (o := 0) Tryd.runUnderlying41 rfl rfl Tryd.sizeOf35 rfl) rfl ?_))
    all_goals (first | (refine TE_s rfl rfl rfl rfl rfl ?_) | (refine TE_su rfl rfl rfl rfl ?_) | (refine TE_gq rfl rfl rfl rfl (RD.load (i := 4) Tryd.isAgg35 rfl rfl rfl) rfl ?_))
    all_goals (first | (refine TE_s rfl rfl rfl rfl rfl ?_) | (refine TE_su rfl rfl rfl rfl ?_) | (refine TE_gq rfl rfl rfl rfl (RD.lenR Tryd.runUnderlying35 rfl hqr) rfl ?_))
    all_goals (first | (refine TE_s rfl rfl rfl rfl rfl ?_) | (refine TE_su rfl rfl rfl rfl ?_) | (refine TE_gq rfl rfl rfl rfl (RD.as (v := .bool true) (RD.eql rfl rfl) (by rw [hlq (by omega), hlr (by omega)]; simp)) rfl ?_))
    all_goals (first | (refine TE_s rfl rfl rfl rfl rfl ?_) | (refine TE_gq rfl rfl rfl rfl (RD.pickT rfl rfl) rfl ?_) | (refine TE_gq rfl rfl rfl rfl (RD.pickF rfl rfl) rfl ?_))
    all_goals (first | (refine TE_q rfl rfl (RD.pickT rfl rfl) rfl ?_) | (refine TE_q rfl rfl (RD.pickF rfl rfl) rfl ?_))
    all_goals refine TE_q rfl rfl (RD.move rfl) rfl ?_
    all_goals refine TE_isT ?_
    all_goals (first | (refine TE_s rfl rfl rfl rfl rfl ?_) | (refine TE_gq rfl rfl rfl rfl (RD.loadA (v := recV r) (i := 2) Tryd.isAgg30 Tryd.sizeOf30 rfl rfl (Nat.le_of_ble_eq_true rfl) (rec_all _)) rfl ?_))
    all_goals (first | (refine TE_s rfl rfl rfl rfl rfl ?_) | ((refine TE_call rfl rfl ⟨_, rfl, rfl⟩ Tryd.call9 rfl rfl rfl (fun w hs' => c_recCheck r g w hr hg (by omega) (hs'.hp.sub (.cons _ (.cons _ (.cons _ (.cons_cons _ (List.nil_sublist _))))))) ?_; rintro v89 H36 ⟨rfl, rfl⟩ -)))
    all_goals (first | (refine TE_s rfl rfl rfl rfl rfl ?_) | (refine TE_gq rfl rfl rfl rfl (RD.loadA (v := recV r) (i := 2) Tryd.isAgg30 Tryd.sizeOf30 rfl rfl (Nat.le_of_ble_eq_true rfl) (rec_all _)) rfl ?_))
    all_goals (first | (refine TE_s rfl rfl rfl rfl rfl ?_) | ((refine TE_call rfl rfl ⟨_, rfl, rfl⟩ Tryd.call20 rfl rfl rfl (fun w hs' => c_r12Check r w hr) ?_; rintro v91 H38 ⟨rfl, rfl⟩ -)))
    all_goals (first | (refine TE_s rfl rfl rfl rfl rfl ?_) | (refine TE_gq rfl rfl rfl rfl (RD.as (v := .bool true) (RD.eql rfl rfl) (by simp)) rfl ?_))
    all_goals (first | (refine TE_q rfl rfl (RD.pickT rfl rfl) rfl ?_) | (refine TE_q rfl rfl (RD.pickF rfl rfl) rfl ?_))
    all_goals refine TE_q rfl rfl (RD.move rfl) rfl ?_
    all_goals refine TE_isT ?_
    all_goals (first | (refine TE_s rfl rfl rfl rfl rfl ?_) | (refine TE_gq rfl rfl rfl rfl (RD.move rfl) rfl ?_))
    all_goals (first | (refine TE_s rfl rfl rfl rfl rfl ?_) | (refine TE_gq rfl rfl rfl rfl (RD.str_of_bytes Tryd.underlying35 Tryd.underlying9 Tryd.underlying5 rfl (hr1.bytes.mono (fun w h => h.sub ((.cons _ (.cons _ (.cons _ (.cons _ (.cons _ (show List.Sublist _ (H3 ++ ((HA ++ (H6 ++ (H5 ++ H1))) ++ srcM s vq H2)) from List.sublist_append_of_sublist_right (List.sublist_append_of_sublist_left (List.sublist_append_of_sublist_right (List.sublist_append_of_sublist_right (List.sublist_append_right _ _)))))))))))))) rfl ?_))
    all_goals (first | (refine TE_s rfl rfl rfl rfl rfl ?_) | (refine TE_gq rfl rfl rfl rfl (RD.move rfl) rfl ?_))
    all_goals (first | (refine TE_s rfl rfl rfl rfl rfl ?_) | (refine TE_gq rfl rfl rfl rfl (RD.str_of_bytes Tryd.underlying35 Tryd.underlying9 Tryd.underlying5 rfl (hb.bytes.mono (fun w h => h.sub (.cons _ (.cons _ (.cons _ (.cons_cons _ (.cons _ (show List.Sublist _ (H3 ++ ((HA ++ (H6 ++ (H5 ++ H1))) ++ srcM s vq H2)) from List.sublist_append_of_sublist_right (List.sublist_append_of_sublist_left (List.sublist_append_left _ _))))))))))) rfl ?_))
    all_goals (first | (refine TE_s rfl rfl rfl rfl rfl ?_) | (refine TE_gq rfl rfl rfl rfl (RD.as (v := .bool true) (RD.eql_string rfl rfl) (by simp)) rfl ?_))
    all_goals (first | (refine TE_q rfl rfl (RD.pickT rfl rfl) rfl ?_) | (refine TE_q rfl rfl (RD.pickF rfl rfl) rfl ?_))
    all_goals refine TE_q rfl rfl (RD.assign rfl) rfl ?_
    all_goals refine TE_nil ?_
    all_goals refine pn_ret ?_
    all_goals (exact pn_done rfl rfl ⟨rfl, rfl⟩ (List.nil_sublist _) (by simp))

end Go.Proofs.YthagkkmbbncclaaDoor
