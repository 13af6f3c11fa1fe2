import Derived.Test.YthagkkmbbncclaaDoorVd
namespace Go.Proofs.YthagkkmbbncclaaDoor
open Go Go.Mv
set_option maxRecDepth 8000
def recM (b4 : Nat) (cs : Array Value) (s : Nat) (v : Value) (HX : Mem) : Mem := (b4, .cells cs 30 (0, 0)) :: srcM s v HX
theorem in_recM {b4 s n : Nat} {cs cs' : Array Value} {v v' : Value} {HX : Mem} : ∀ e ∈ recM b4 cs s v HX, e.1 ∈ keys (recM b4 cs' s v' HX) ∨ n ≤ e.1 := fun e he => .inl (show e.1 ∈ keys (recM b4 cs s v HX) from mem_keys.2 ⟨e, he, rfl⟩)
/-- One part of a record is read. -/
def partD (i : Nat) (q : Rec) (ys : List UInt8) : Dr Rec :=
  match i with
  | 0 => match dotD ys with | .err e => .err e | .ok d r => .ok { q with s := (d.1 : Int), c := (d.2 : Int) } r
  | 1 => match vecD ys with | .err e => .err e | .ok l r => .ok { q with ctx := vecOf l } r
  | 2 => match bytesD 100 ys with | .err e => .err e | .ok b r => .ok { q with ref := ⟨b.toArray⟩ } r
  | _ => match numD 1 ys with | .err e => .err e | .ok n r => .ok { q with has := decide (n = 1) } r
def PartP (HX : Mem) (s b4 : Nat) (ys : List UInt8) (d : Dr Rec) (v : Value) (H1 : Mem) : Prop :=
  (∃ q r v', d = .ok q r ∧ v = .int .i64 0 ∧ H1 = recM b4 (recV q).cells s v' HX ∧ Rdb HX v' r ∧ r.length ≤ ys.length) ∨
  (∃ e cs v' r, d = .err e ∧ e ≠ 0 ∧ v = .int .i64 e ∧ H1 = recM b4 cs s v' HX ∧ Rdb HX v' r ∧ r.length ≤ ys.length)

theorem c_part0 (HX : Mem) (b4 s x2 x3 : Nat) (q : Rec) (sv : Value) (ys : List UInt8) (w : World) (hb : Rdb HX sv ys) (hlen : ys.length ≤ 2199023255552) (hw : Hp ([(x2, .cells #[.pointer (some ⟨s, 0, none⟩)] 37 (0, 0)), (x3, .cells #[.pointer (some ⟨b4, 0, none⟩)] 80 (0, 0))] ++ recM b4 (recV q).cells s sv HX) w) : Calls Tryd.prog 64 #[.pointer (some ⟨x2, 0, none⟩), .pointer (some ⟨x3, 0, none⟩)] w (Ret w (keys (recM b4 (recV q).cells s sv HX)) (PartP HX s b4 ys (partD 0 q ys))) := by
  refine fn_enter (args := [_, _]) Tryd.func64 rfl Tryd.ntmps64 rfl hw ?_
  refine pn_seq ?_
  refine pn_plain [] rfl ?_
  refine TE_q rfl rfl (RD.assign rfl) rfl ?_
  refine TE_nil0 ?_
  refine pn_seq ?_
  refine pn_drawU [0, 1] [2] [0, 1] [_, _, _] (srcM s sv HX) rfl rfl (by kernel_rfl) (by kernel_rfl) rfl rfl ?_
  refine TE_q rfl rfl (RD.load (i := 1) Tryd.isAgg80 rfl rfl rfl) rfl ?_
  refine TE_q rfl rfl (RD.load (i := 0) Tryd.isAgg37 rfl rfl rfl) rfl ?_
  refine TE_callT [_] (srcM s sv HX) rfl rfl rfl trivial Tryd.call65 rfl rfl rfl (fun e he => .inr (mem_keys.2 ⟨e, List.mem_cons_of_mem _ he, rfl⟩)) (fun w hs' => c_dotDec HX s sv ys w hb hlen (hs'.hp.left.right (A := [_]))) ?_
  rintro v6 H2 (⟨d, r, v1, hd, rfl, rfl, hq, hl⟩ | ⟨e, v1, r, hd, he, rfl, rfl, hq, hl⟩) hX1
  · refine TE_q rfl rfl (RD.move rfl) rfl ?_
    refine TE_q rfl rfl (RD.extract rfl rfl) rfl ?_
    refine TE_q rfl rfl (RD.extract rfl rfl) rfl ?_
    refine TE_q rfl rfl (RD.nilCheckP rfl) rfl ?_
    refine TE_q rfl rfl (RD.fieldAddr (o := 0) Tryd.runUnderlying30 rfl rfl Tryd.sizeOf23 rfl) rfl ?_
    refine TE_put (i := 0) rfl Tryd.sizeOf23 trivial rfl rfl rfl rfl rfl rfl (.inr (by simp [recM])) ?_
    refine TE_q rfl rfl (RD.assign rfl) rfl ?_
    refine TE_nil ?_
    refine pn_seq ?_
    refine pn_plain [] rfl ?_
    refine TE_q rfl rfl (RD.move rfl) rfl ?_
    refine TE_q rfl rfl (RD.assign rfl) rfl ?_
    refine TE_nil0 ?_
    refine pn_ret ?_
    exact pn_doneF rfl ⟨_, _, rfl, rfl, rfl⟩ (.inl ⟨{ q with s := (d.1 : Int), c := (d.2 : Int) }, _, _, by simp only [partD, hd], rfl, rfl, hq, hl⟩) (fun w h => by rw [← put_rec_dot]; exact h.left) in_recM
  · refine TE_q rfl rfl (RD.move rfl) rfl ?_
    refine TE_q rfl rfl (RD.extract rfl rfl) rfl ?_
    refine TE_q rfl rfl (RD.extract rfl rfl) rfl ?_
    refine TE_q rfl rfl (RD.nilCheckP rfl) rfl ?_
    refine TE_q rfl rfl (RD.fieldAddr (o := 0) Tryd.runUnderlying30 rfl rfl Tryd.sizeOf23 rfl) rfl ?_
    refine TE_put (i := 0) rfl Tryd.sizeOf23 trivial rfl rfl rfl rfl rfl rfl (.inr (by simp [recM])) ?_
    refine TE_q rfl rfl (RD.assign rfl) rfl ?_
    refine TE_nil ?_
    refine pn_seq ?_
    refine pn_plain [] rfl ?_
    refine TE_q rfl rfl (RD.move rfl) rfl ?_
    refine TE_q rfl rfl (RD.assign rfl) rfl ?_
    refine TE_nil0 ?_
    refine pn_ret ?_
    exact pn_doneF rfl ⟨_, _, rfl, rfl, rfl⟩ (.inr ⟨e, _, _, _, by simp only [partD, hd], he, rfl, rfl, hq, hl⟩) (fun w h => h.left) in_recM

theorem c_part1 (HX : Mem) (b4 s x2 x3 : Nat) (q : Rec) (sv : Value) (ys : List UInt8) (w : World) (hb : Rdb HX sv ys) (hlen : ys.length ≤ 2199023255552) (hw : Hp ([(x2, .cells #[.pointer (some ⟨s, 0, none⟩)] 37 (0, 0)), (x3, .cells #[.pointer (some ⟨b4, 0, none⟩)] 80 (0, 0))] ++ recM b4 (recV q).cells s sv HX) w) : Calls Tryd.prog 66 #[.pointer (some ⟨x2, 0, none⟩), .pointer (some ⟨x3, 0, none⟩)] w (Ret w (keys (recM b4 (recV q).cells s sv HX)) (PartP HX s b4 ys (partD 1 q ys))) := by
  refine fn_enter (args := [_, _]) Tryd.func66 rfl Tryd.ntmps66 rfl hw ?_
  refine pn_seq ?_
  refine pn_plain [] rfl ?_
  refine TE_q rfl rfl (RD.assign rfl) rfl ?_
  refine TE_nil0 ?_
  refine pn_seq ?_
  refine pn_drawU [0, 1] [2] [0, 1] [_, _, _] (srcM s sv HX) rfl rfl (by kernel_rfl) (by kernel_rfl) rfl rfl ?_
  refine TE_q rfl rfl (RD.load (i := 1) Tryd.isAgg80 rfl rfl rfl) rfl ?_
  refine TE_q rfl rfl (RD.load (i := 0) Tryd.isAgg37 rfl rfl rfl) rfl ?_
  refine TE_callT [_] (srcM s sv HX) rfl rfl rfl trivial Tryd.call67 rfl rfl rfl (fun e he => .inr (mem_keys.2 ⟨e, List.mem_cons_of_mem _ he, rfl⟩)) (fun w hs' => c_vecDec HX s sv ys w hb hlen (hs'.hp.left.right (A := [_]))) ?_
  rintro v6 H2 (⟨d, r, v1, hd, rfl, rfl, hq, hl⟩ | ⟨e, v1, r, hd, he, rfl, rfl, hq, hl⟩) hX1
  · refine TE_q rfl rfl (RD.move rfl) rfl ?_
    refine TE_q rfl rfl (RD.extract rfl rfl) rfl ?_
    refine TE_q rfl rfl (RD.extract rfl rfl) rfl ?_
    refine TE_q rfl rfl (RD.nilCheckP rfl) rfl ?_
    refine TE_q rfl rfl (RD.fieldAddr (o := 2) Tryd.runUnderlying30 rfl rfl Tryd.sizeOf26 rfl) rfl ?_
    refine TE_put (i := 0) rfl Tryd.sizeOf26 trivial rfl rfl rfl rfl rfl rfl (.inr (by simp [recM])) ?_
    refine TE_q rfl rfl (RD.assign rfl) rfl ?_
    refine TE_nil ?_
    refine pn_seq ?_
    refine pn_plain [] rfl ?_
    refine TE_q rfl rfl (RD.move rfl) rfl ?_
    refine TE_q rfl rfl (RD.assign rfl) rfl ?_
    refine TE_nil0 ?_
    refine pn_ret ?_
    exact pn_doneF rfl ⟨_, _, rfl, rfl, rfl⟩ (.inl ⟨{ q with ctx := vecOf d }, _, _, by simp only [partD, hd], rfl, rfl, hq, hl⟩) (fun w h => by rw [← put_rec_ctx]; exact h.left) in_recM
  · refine TE_q rfl rfl (RD.move rfl) rfl ?_
    refine TE_q rfl rfl (RD.extract rfl rfl) rfl ?_
    refine TE_q rfl rfl (RD.extract rfl rfl) rfl ?_
    refine TE_q rfl rfl (RD.nilCheckP rfl) rfl ?_
    refine TE_q rfl rfl (RD.fieldAddr (o := 2) Tryd.runUnderlying30 rfl rfl Tryd.sizeOf26 rfl) rfl ?_
    refine TE_put (i := 0) rfl Tryd.sizeOf26 trivial rfl rfl rfl rfl rfl rfl (.inr (by simp [recM])) ?_
    refine TE_q rfl rfl (RD.assign rfl) rfl ?_
    refine TE_nil ?_
    refine pn_seq ?_
    refine pn_plain [] rfl ?_
    refine TE_q rfl rfl (RD.move rfl) rfl ?_
    refine TE_q rfl rfl (RD.assign rfl) rfl ?_
    refine TE_nil0 ?_
    refine pn_ret ?_
    exact pn_doneF rfl ⟨_, _, rfl, rfl, rfl⟩ (.inr ⟨e, _, _, _, by simp only [partD, hd], he, rfl, rfl, hq, hl⟩) (fun w h => h.left) in_recM

theorem c_part2 (HX : Mem) (b4 s x2 x3 : Nat) (q : Rec) (sv : Value) (ys : List UInt8) (w : World) (hb : Rdb HX sv ys) (hlen : ys.length ≤ 2199023255552) (hw : Hp ([(x2, .cells #[.pointer (some ⟨s, 0, none⟩)] 37 (0, 0)), (x3, .cells #[.pointer (some ⟨b4, 0, none⟩)] 80 (0, 0))] ++ recM b4 (recV q).cells s sv HX) w) : Calls Tryd.prog 68 #[.pointer (some ⟨x2, 0, none⟩), .pointer (some ⟨x3, 0, none⟩)] w (Ret w (keys (recM b4 (recV q).cells s sv HX)) (PartP HX s b4 ys (partD 2 q ys))) := by
  refine fn_enter (args := [_, _]) Tryd.func68 rfl Tryd.ntmps68 rfl hw ?_
  refine pn_seq ?_
  refine pn_plain [] rfl ?_
  refine TE_q rfl rfl (RD.assign rfl) rfl ?_
  refine TE_nil0 ?_
  refine pn_seq ?_
  refine pn_plain [] rfl ?_
  refine TE_l rfl rfl trivial rfl (RD.load (i := 0) Tryd.isAgg37 rfl rfl rfl) rfl ?_
  refine TE_callT [_, _, _] (srcM s sv HX) rfl rfl rfl trivial Tryd.call69 rfl rfl rfl (fun e he => .inr (mem_keys.2 ⟨e, List.mem_cons_of_mem _ he, rfl⟩)) (fun w hs' => c_bytes HX s 100 sv ys w hb hlen (by decide) (hs'.hp.left.right (A := [_, _, _]))) ?_
  rintro v7 H1 (⟨b, r, v1, x, H2, hd, rfl, hr, rfl, hq, hl⟩ | ⟨e, v1, r, hd, he, rfl, rfl, hq, hl⟩) hX1
  · refine TE_q rfl rfl (RD.move rfl) rfl ?_
    refine TE_q rfl rfl (RD.extract rfl rfl) rfl ?_
    refine TE_q rfl rfl (RD.extract rfl rfl) rfl ?_
    refine TE_q rfl rfl (RD.assign rfl) rfl ?_
    refine TE_q rfl rfl (RD.assign rfl) rfl ?_
    refine TE_nil0 ?_
    refine pn_seq ?_
    refine pn_plain [] rfl ?_
    refine TE_l rfl rfl trivial rfl (RD.load (i := 1) Tryd.isAgg80 rfl rfl rfl) rfl ?_
    refine TE_q rfl rfl (RD.move rfl) rfl ?_
    refine TE_l rfl rfl trivial rfl (RD.str_of_bytes Tryd.underlying35 Tryd.underlying9 Tryd.underlying5 rfl (hr.bytes.mono (fun w h => h.left.right (A := [_, _, _]) |>.left))) rfl ?_
    refine TE_q rfl rfl (RD.nilCheckP rfl) rfl ?_
    refine TE_q rfl rfl (RD.fieldAddr (o := 18) Tryd.runUnderlying30 rfl rfl Tryd.sizeOf9 rfl) rfl ?_
    refine TE_store (i := 2) rfl Tryd.sizeOf9 trivial rfl rfl rfl rfl rfl rfl (.inr (by simp [recM])) ?_
    refine TE_nil0 ?_
    refine pn_seq ?_
    refine pn_plain [] rfl ?_
    refine TE_q rfl rfl (RD.move rfl) rfl ?_
    refine TE_q rfl rfl (RD.assign rfl) rfl ?_
    refine TE_nil0 ?_
    refine pn_ret ?_
    exact pn_doneF rfl ⟨_, _, rfl, rfl, rfl⟩ (.inl ⟨{ q with ref := ⟨b.toArray⟩ }, _, _, by simp only [partD, hd], rfl, rfl, hq, hl⟩) (fun w h => by rw [← put_rec_ref]; exact (Hp.right (A := [_, _]) h).sub (.cons_cons _ (List.sublist_append_right _ _))) in_recM
  · refine TE_q rfl rfl (RD.move rfl) rfl ?_
    refine TE_q rfl rfl (RD.extract rfl rfl) rfl ?_
    refine TE_q rfl rfl (RD.extract rfl rfl) rfl ?_
    refine TE_q rfl rfl (RD.assign rfl) rfl ?_
    refine TE_q rfl rfl (RD.assign rfl) rfl ?_
    refine TE_nil0 ?_
    refine pn_seq ?_
    refine pn_plain [] rfl ?_
    refine TE_l rfl rfl trivial rfl (RD.load (i := 1) Tryd.isAgg80 rfl rfl rfl) rfl ?_
    refine TE_q rfl rfl (RD.move rfl) rfl ?_
    refine TE_l rfl rfl trivial rfl (RD.str_of_bytes Tryd.underlying35 Tryd.underlying9 Tryd.underlying5 rfl BytesIn.nil) rfl ?_
    refine TE_q rfl rfl (RD.nilCheckP rfl) rfl ?_
    refine TE_q rfl rfl (RD.fieldAddr (o := 18) Tryd.runUnderlying30 rfl rfl Tryd.sizeOf9 rfl) rfl ?_
    refine TE_store (i := 2) rfl Tryd.sizeOf9 trivial rfl rfl rfl rfl rfl rfl (.inr (by simp [recM])) ?_
    refine TE_nil0 ?_
    refine pn_seq ?_
    refine pn_plain [] rfl ?_
    refine TE_q rfl rfl (RD.move rfl) rfl ?_
    refine TE_q rfl rfl (RD.assign rfl) rfl ?_
    refine TE_nil0 ?_
    refine pn_ret ?_
    exact pn_doneF rfl ⟨_, _, rfl, rfl, rfl⟩ (.inr ⟨e, _, _, _, by simp only [partD, hd], he, rfl, rfl, hq, hl⟩) (fun w h => Hp.right (A := [_, _]) h) in_recM

theorem c_part3 (HX : Mem) (b4 s x2 x3 : Nat) (q : Rec) (sv : Value) (ys : List UInt8) (w : World) (hb : Rdb HX sv ys) (hlen : ys.length ≤ 2199023255552) (hw : Hp ([(x2, .cells #[.pointer (some ⟨s, 0, none⟩)] 37 (0, 0)), (x3, .cells #[.pointer (some ⟨b4, 0, none⟩)] 80 (0, 0))] ++ recM b4 (recV q).cells s sv HX) w) : Calls Tryd.prog 70 #[.pointer (some ⟨x2, 0, none⟩), .pointer (some ⟨x3, 0, none⟩)] w (Ret w (keys (recM b4 (recV q).cells s sv HX)) (PartP HX s b4 ys (partD 3 q ys))) := by
  refine fn_enter (args := [_, _]) Tryd.func70 rfl Tryd.ntmps70 rfl hw ?_
  refine pn_seq ?_
  refine pn_plain [] rfl ?_
  refine TE_q rfl rfl (RD.assign rfl) rfl ?_
  refine TE_nil0 ?_
  refine pn_seq ?_
  refine pn_plain [] rfl ?_
  refine TE_l rfl rfl trivial rfl (RD.load (i := 0) Tryd.isAgg37 rfl rfl rfl) rfl ?_
  refine TE_callT [_, _, _] (srcM s sv HX) rfl rfl rfl trivial Tryd.call71 rfl rfl rfl (fun e he => .inr (mem_keys.2 ⟨e, List.mem_cons_of_mem _ he, rfl⟩)) (fun w hs' => c_num HX s 1 sv ys w hb (by omega) (by decide) (hs'.hp.left.right (A := [_, _, _]))) ?_
  rintro v7 H1 (⟨n, r, v1, hd, rfl, rfl, hq, hl⟩ | ⟨e, v1, r, hd, he, rfl, rfl, hq, hl⟩) hX1
  · refine TE_q rfl rfl (RD.move rfl) rfl ?_
    refine TE_q rfl rfl (RD.extract rfl rfl) rfl ?_
    refine TE_q rfl rfl (RD.extract rfl rfl) rfl ?_
    refine TE_q rfl rfl (RD.assign rfl) rfl ?_
    refine TE_q rfl rfl (RD.assign rfl) rfl ?_
    refine TE_nil0 ?_
    refine pn_seq ?_
    refine pn_plain [] rfl ?_
    refine TE_l rfl rfl trivial rfl (RD.load (i := 1) Tryd.isAgg80 rfl rfl rfl) rfl ?_
    refine TE_q rfl rfl (RD.move rfl) rfl ?_
    refine TE_q rfl rfl (RD.as (v := .bool (decide (n = 1))) (RD.eql rfl rfl) (by congr 1; exact decide_eq_decide.2 (by omega))) rfl ?_
    refine TE_q rfl rfl (RD.nilCheckP rfl) rfl ?_
    refine TE_q rfl rfl (RD.fieldAddr (o := 19) Tryd.runUnderlying30 rfl rfl Tryd.sizeOf4 rfl) rfl ?_
    refine TE_store (i := 2) rfl Tryd.sizeOf4 trivial rfl rfl rfl rfl rfl rfl (.inr (by simp [recM])) ?_
    refine TE_nil0 ?_
    refine pn_seq ?_
    refine pn_plain [] rfl ?_
    refine TE_q rfl rfl (RD.move rfl) rfl ?_
    refine TE_q rfl rfl (RD.assign rfl) rfl ?_
    refine TE_nil0 ?_
    refine pn_ret ?_
    exact pn_doneF rfl ⟨_, _, rfl, rfl, rfl⟩ (.inl ⟨{ q with has := decide (n = 1) }, _, _, by simp only [partD, hd], rfl, rfl, hq, hl⟩) (fun w h => by rw [← put_rec_has]; exact Hp.right (A := [_, _]) h) in_recM
  · refine TE_q rfl rfl (RD.move rfl) rfl ?_
    refine TE_q rfl rfl (RD.extract rfl rfl) rfl ?_
    refine TE_q rfl rfl (RD.extract rfl rfl) rfl ?_
    refine TE_q rfl rfl (RD.assign rfl) rfl ?_
    refine TE_q rfl rfl (RD.assign rfl) rfl ?_
    refine TE_nil0 ?_
    refine pn_seq ?_
    refine pn_plain [] rfl ?_
    refine TE_l rfl rfl trivial rfl (RD.load (i := 1) Tryd.isAgg80 rfl rfl rfl) rfl ?_
    refine TE_q rfl rfl (RD.move rfl) rfl ?_
    refine TE_q rfl rfl (RD.eql rfl rfl) rfl ?_
    refine TE_q rfl rfl (RD.nilCheckP rfl) rfl ?_
    refine TE_q rfl rfl (RD.fieldAddr (o := 19) Tryd.runUnderlying30 rfl rfl Tryd.sizeOf4 rfl) rfl ?_
    refine TE_store (i := 2) rfl Tryd.sizeOf4 trivial rfl rfl rfl rfl rfl rfl (.inr (by simp [recM])) ?_
    refine TE_nil0 ?_
    refine pn_seq ?_
    refine pn_plain [] rfl ?_
    refine TE_q rfl rfl (RD.move rfl) rfl ?_
    refine TE_q rfl rfl (RD.assign rfl) rfl ?_
    refine TE_nil0 ?_
    refine pn_ret ?_
    exact pn_doneF rfl ⟨_, _, rfl, rfl, rfl⟩ (.inr ⟨e, _, _, _, by simp only [partD, hd], he, rfl, rfl, hq, hl⟩) (fun w h => Hp.right (A := [_, _]) h) in_recM

end Go.Proofs.YthagkkmbbncclaaDoor
