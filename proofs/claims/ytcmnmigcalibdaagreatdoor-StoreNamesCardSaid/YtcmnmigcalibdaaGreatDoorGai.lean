import Derived.Test.YtcmnmigcalibdaaGreatDoorGah
import Derived.Test.YtcmnmigcalibdaaGreatDoorProg
import Derived.Test.YtcmnmigcalibdaaGreatDoorShq
namespace Go.Proofs.YtcmnmigcalibdaaGreatDoor
open Go.Proofs.Tryz
open Go Go.Mv
set_option maxRecDepth 4000
theorem c_clone (H : Mem) (xv : Value) (ys : List UInt8) (w : World) (hH : Hp H w) (hb : BytesIn H xv ys) (hlen : ys.length ≤ 2199023255552) : Calls Tryz.prog 105 #[xv] w (Ret w [] fun v H1 => RetB 5 v H1 ys) := by
 have hb0 := hb
 obtain ⟨a, c, rfl, hb⟩ := hb
 refine fn_enter (args := [_]) func105 rfl ntmps105 rfl hH (sq (pl (qa rfl (n0 (sq (sq (pl (qm rfl (qq rfl (RD.sl_eql_nil runUnderlying32 rfl rfl) ?_)))))))))
 refine n0 ?_
 rcases a with _ | ad
 ·have hy : ys = [] := Classical.byContradiction fun h => by obtain ⟨_, h', _⟩ := hb h; cases h'
  subst hy
  exact pn_condT rfl (sq (pl (qa rfl (n0 (rt (pn_done rfl rfl (.inr ⟨rfl, rfl, rfl⟩) (List.nil_sublist _) (by simp)))))))
 ·refine pn_condF rfl (sk (sq (pl (TE_buildSlice0 rfl runUnderlying32 sizeOf5 trivial rfl fun b5 hb5 => (qm rfl ?_)))))
  by_cases hy : ys = []
  ·subst hy
   exact ql rfl (RD.append0 underlying32 elByte rfl rfl (Nat.zero_le _)) (qa rfl (n0 (rt (pn_done rfl rfl (.inl ⟨b5, 0, [], rfl, rfl, Nat.zero_le _, by decide, rfl⟩) (List.Sublist.cons_cons _ (List.nil_sublist _)) (by simp; exact hb5)))))
  ·refine TE_appendS (i := 0) (n := 0) (xs := []) (tl := []) (ys := bcells ys) rfl rfl trivial rfl underlying32 elByte rfl rfl rfl rfl rfl rfl rfl (Nat.le_refl _) (by decide) (hb0.src hy (fun w hw => hw.left.sub (List.sublist_cons_self _ _))) (by simp) (bcells_one _) (List.length_pos_iff.2 hy) (maxLen_ge (by omega)) (by omega) (.inl hb5) ?_
   intro b' cap' tl' h1 h2 h3 h4
   exact qa rfl (n0 (rt (pn_done rfl rfl (.inl ⟨b', cap', tl', by show Value.slice _ (0 + ys.length) _ = _; rw [Nat.zero_add], rfl, by omega, h2, by simpa using h3⟩) (List.Sublist.cons_cons _ (List.nil_sublist _)) (by simp; rcases h4 with rfl | h4; exact hb5; exact h4))))
end Go.Proofs.YtcmnmigcalibdaaGreatDoor

namespace Go.Proofs.YtcmnmigcalibdaaGreatDoor
open Go Go.Mv
set_option maxRecDepth 4000
def byteBad (b : UInt8) : Bool := decide (b.toNat < 33) || decide (126 < b.toNat) || decide (0 ≤ Lib.indexByte [126, 94, 58, 63, 42, 91, 92] b)
def byByteB (s : ByteArray) : Bool := s.data.toList.any byteBad
end Go.Proofs.YtcmnmigcalibdaaGreatDoor

namespace Go.Proofs.YtcmnmigcalibdaaGreatDoor
open Go Go.Mv
set_option maxRecDepth 4000
def pLong (s : ByteArray) : Bool := decide (s = ⟨#[]⟩) || decide (100 < (s.size : Int))
def pEmpty (s : ByteArray) : Bool := decide (s = ⟨#[]⟩)
def pDot (s : ByteArray) : Bool := Lib.hasPrefix s.data.toList [46]
def pLock (s : ByteArray) : Bool := Lib.hasSuffix s.data.toList [46, 108, 111, 99, 107]
def pEnd (s : ByteArray) : Bool := Lib.hasSuffix s.data.toList [46]
def pHas (u : ByteArray) (s : ByteArray) : Bool := Lib.contains s.data.toList u.data.toList
def pPart (f : ByteArray → Bool) (s : ByteArray) : Bool := (partsOf s).any f
end Go.Proofs.YtcmnmigcalibdaaGreatDoor

namespace Go.Proofs.YtcmnmigcalibdaaGreatDoor
open Go Go.Mv
set_option maxRecDepth 4000
def brk (n : Int) (s : ByteArray) : Bool := bif decide (n = 1) then pLong s else bif decide (n = 2) then byByteB s else bif decide (n = 3) then pPart pEmpty s else bif decide (n = 4) then pPart pDot s else bif decide (n = 5) then pHas ⟨#[46, 46]⟩ s else bif decide (n = 6) then pPart pLock s else bif decide (n = 7) then pEnd s else pHas ⟨#[64, 123]⟩ s
/-- P4.1: the first rule that a name breaks. -/
def breaksN (s : ByteArray) : Int := (([1, 2, 3, 4, 5, 6, 7, 8] : List Int).find? fun n => brk n s).getD 0
end Go.Proofs.YtcmnmigcalibdaaGreatDoor

namespace Go.Proofs.YtcmnmigcalibdaaGreatDoor
open Go Go.Mv
set_option maxRecDepth 8000
theorem info_u8 : Tryz.prog.info? 5 = some Tryz.t5 := by kernel_rfl
theorem cells_u8 : Tryz.prog.cellsOf 5 = 1 := by kernel_rfl
theorem eq_id (f g : Nat → Int) (w : World) : (Op.equalIn 10000 35 (.agg (idV f).cells) (.agg (idV g).cells)).run Tryz.prog w = .ok (sameN 32 f g) w :=
  eqIn_ints (d := 9998) (k := .u8) Tryz.underlying35 info_u8 Tryz.underlying5 Tryz.isAgg5 cells_u8 (fun _ hi => ⟨id_at f hi, id_at g hi⟩) w
def tip0 (r : Rec) : Bool := sameN 32 r.tip fun _ => 0
/-- P12.1: a record that may be. -/
def recOkB (r : Rec) : Bool := dotOk r.s r.c && decide (r.ctx r.s.toNat = r.c - 1) && decide (breaksN r.ref = 0) && (r.has || tip0 r)
end Go.Proofs.YtcmnmigcalibdaaGreatDoor

namespace Go.Proofs.YtcmnmigcalibdaaGreatDoor
open Go Go.Mv
set_option maxRecDepth 8000
/-- Two records whose cells are the same. -/
structure SameR (a b : Rec) : Prop where
  s : a.s = b.s
  c : a.c = b.c
  ctx : ∀ i, i < 16 → a.ctx i = b.ctx i
  ref : a.ref = b.ref
  has : a.has = b.has
  tip : ∀ i, i < 32 → a.tip i = b.tip i
theorem sameN_congr {a b c : Nat → Int} (n : Nat) (h : ∀ i, i < n → a i = b i) : sameN n a c = sameN n b c := by
  apply Bool.eq_iff_iff.2
  rw [sameN_iff, sameN_iff]
  exact ⟨fun k i hi => (h i hi).symm.trans (k i hi), fun k i hi => (h i hi).trans (k i hi)⟩
theorem SameR.ok {a b : Rec} (h : SameR a b) : recOkB a = recOkB b := by
  simp only [recOkB]
  rw [show tip0 a = tip0 b from sameN_congr 32 h.tip, h.s, h.c, h.ref, h.has]
  cases hd : dotOk b.s b.c with
  | false => rfl
  | true =>
    have := dotOk_iff.1 hd
    rw [h.ctx b.s.toNat (by omega)]
theorem eqIn_string {P : Program} {T : TypeId} {w : World} {d : Nat} {a b : ByteArray} (hT : P.underlying T = some .string) : (Op.equalIn (d + 1) T (.string a) (.string b)).run P w = .ok (decide (a = b)) w := by
  rw [run_equalIn_string w d T a b hT, string_beq]
end Go.Proofs.YtcmnmigcalibdaaGreatDoor

namespace Go.Proofs.YtcmnmigcalibdaaGreatDoor
open Go Go.Mv
set_option maxRecDepth 8000
def rawD (n : Nat) (ys : List UInt8) : Dr (List UInt8) := if ys.length < n then .err 10 else .ok (ys.take n) (ys.drop n)
def bytesD (most : Nat) (ys : List UInt8) : Dr (List UInt8) :=
  match numD most ys with
  | .err e => .err e
  | .ok n r => rawD n r
def tipOf (l : List UInt8) : Nat → Int := fun i => ((l.getD i 0).toNat : Int)
theorem rawD_ok {n : Nat} {ys b r : List UInt8} (h : rawD n ys = .ok b r) : ys = b ++ r ∧ b.length = n := by
  simp only [rawD] at h
  split at h
  · cases h
  · rename_i hl
    simp only [Dr.ok.injEq] at h
    obtain ⟨rfl, rfl⟩ := h
    exact ⟨(List.take_append_drop n ys).symm, by simp; omega⟩
theorem bytesD_ok {most : Nat} {ys b r : List UInt8} (h : bytesD most ys = .ok b r) : ys = lebL b.length ++ b ++ r ∧ b.length ≤ most := by
  simp only [bytesD] at h
  split at h
  · cases h
  · rename_i n r1 hn
    obtain ⟨h1, h2, _⟩ := numD_ok hn
    obtain ⟨h3, h4⟩ := rawD_ok h
    subst h4
    exact ⟨by rw [h1, h3, List.append_assoc], h2⟩
theorem tipL_tipOf {l : List UInt8} (h : l.length = 32) : tipL (tipOf l) = l := by
  apply List.ext_getElem?
  intro i
  by_cases hi : i < 32
  · have h2 : l[i]? = some (l[i]'(by omega)) := List.getElem?_eq_getElem (by omega)
    simp only [tipL, tipOf, List.getElem?_map, List.getElem?_range hi, Option.map_some, List.getD_eq_getElem?_getD, h2, Option.getD_some, Int.toNat_natCast, UInt8.ofNat_toNat]
  · rw [List.getElem?_eq_none (by rw [tipL_len]; omega), List.getElem?_eq_none (by omega)]
theorem tipOf_tipL {t : Nat → Int} (ht : IdOk t) {i : Nat} (hi : i < 32) : tipOf (tipL t) i = t i := by
  have := ht i
  simp only [tipOf, tipL, List.getD_eq_getElem?_getD, List.getElem?_map, List.getElem?_range hi, Option.map_some, Option.getD_some]
  rw [UInt8.toNat_ofNat_of_lt' (show (t i).toNat < 256 by omega)]; omega

end Go.Proofs.YtcmnmigcalibdaaGreatDoor

namespace Go.Proofs.YtcmnmigcalibdaaGreatDoor
open Go.Proofs.Tryz
open Go Go.Mv
set_option maxRecDepth 8000
def srcM (s : Nat) (v : Value) (HX : Mem) : Mem := (s, .cells #[v] 178 (0, 0)) :: HX
theorem in_src {s n : Nat} {v v' : Value} {HX : Mem} : ∀ e ∈ srcM s v HX, e.1 ∈ keys (srcM s v' HX) ∨ n ≤ e.1 := fun e he => .inl (show e.1 ∈ keys (srcM s v HX) from mem_keys.2 ⟨e, he, rfl⟩)
theorem build_src (a : Option Addr) (n c : Nat) (w : World) : (Instr.build 178 #[(0, .slice a n c)]).run Tryz.prog w = .ok (.agg #[.slice a n c]) w := by
  simp [Instr.build, zeroValue178, runUnderlying178, sizeOf32, Value.cells, Instr.fill]

theorem c_from (HX : Mem) (xv : Value) (ys : List UInt8) (w : World) (hb : BytesIn HX xv ys) (hlen : ys.length ≤ 2199023255552) (hH : Hp HX w) : Calls Tryz.prog 41 #[xv] w (Ret w [] fun v H1 => ∃ s sv H2, v = .pointer (some ⟨s, 0, none⟩) ∧ H1 = srcM s sv H2 ∧ Rdb H2 sv ys) := by
 refine fn_enter (args := [_]) func41 rfl ntmps41 rfl hH (sq (pl (qa rfl (n0 (sq (pl (qm rfl (TE_call rfl rfl trivial call105 rfl rfl rfl (fun w hs' => c_clone HX xv ys w hs'.hp.left hb hlen) ?_))))))))
 rintro v4 H1 hr hX
 obtain ⟨a, c, rfl⟩ := hr.rdb.shape
 exact qq rfl (RD.build rfl (build_src _ _ _)) (TE_box rfl rfl trivial rfl fun b6 hb6 => (qa rfl (n0 (rt (pn_done rfl rfl ⟨b6, _, H1, rfl, rfl, hr.rdb⟩ (List.Sublist.cons_cons _ (List.sublist_append_left _ _)) (allC (Q := fun k => k ∈ _ ∨ _ ≤ k) (.inr hb6) (fun e he => .inr (hX e he))))))))
theorem c_back (s e : Nat) (a : Option Addr) (n c : Nat) (w : World) (hH : Hp [(s, .cells #[.slice a n c] 178 (0, 0))] w) : Calls Tryz.prog 173 #[.pointer (some ⟨s, 0, none⟩), .pointer (some ⟨e, 0, none⟩)] w (Ret w [] fun v H1 => ∃ x2 x3 x5, v = .func (.func 220) #[] #[.pointer (some ⟨x3, 0, none⟩), .pointer (some ⟨x5, 0, none⟩), .pointer (some ⟨x2, 0, none⟩)] ∧ H1 = [(x5, .cells #[.slice a n c] 32 (0, 0)), (x3, .cells #[.pointer (some ⟨e, 0, none⟩)] 270 (0, 0)), (x2, .cells #[.pointer (some ⟨s, 0, none⟩)] 85 (0, 0))]) := by
 refine fn_enter (args := [_, _]) func173 rfl ntmps173 rfl hH (sq (pl (TE_box rfl rfl trivial rfl fun b2 hb2 => (TE_box rfl rfl trivial rfl fun b3 hb3 => (qa rfl (n0 (sq (pl (ql rfl (RD.load (i := 1) isAgg85 rfl rfl rfl) ?_)))))))))
 refine qn rfl (qq rfl (RD.fieldAddr (o := 0) runUnderlying178 rfl rfl sizeOf32 rfl) (ql rfl (RD.load (i := 2) isAgg32 rfl rfl rfl) (TE_alloc rfl zeroValue32 trivial rfl fun b5 hb5 => (TE_store (i := 0) rfl sizeOf32 trivial rfl rfl rfl rfl rfl rfl (.inl (by assumption)) (n0 (sq (pl (qq rfl (RD.makeFunc rfl rfl) (qa rfl ?_)))))))))
 exact n0 (rt (pn_done rfl rfl ⟨b2, b3, b5, rfl, rfl⟩ (List.Sublist.cons_cons _ (List.Sublist.cons_cons _ (List.Sublist.cons_cons _ (List.nil_sublist _)))) (by simp; exact ⟨hb5, hb3, hb2⟩)))
theorem c_back1 (s e x2 x3 x5 : Nat) (a a' : Option Addr) (n c n' c' : Nat) (ev : Int) (w : World) (hw : Hp ([(x5, .cells #[.slice a n c] 32 (0, 0)), (x3, .cells #[.pointer (some ⟨e, 0, none⟩)] 270 (0, 0)), (x2, .cells #[.pointer (some ⟨s, 0, none⟩)] 85 (0, 0)), (e, .cells #[.int .i64 ev] 29 (0, 0))] ++ [(s, .cells #[.slice a' n' c'] 178 (0, 0))]) w) : CallsDf Tryz.prog 220 #[.pointer (some ⟨x3, 0, none⟩), .pointer (some ⟨x5, 0, none⟩), .pointer (some ⟨x2, 0, none⟩)] w (Ret w [s] fun _ H1 => H1 = [(s, .cells #[if ev = 0 then .slice a' n' c' else .slice a n c] 178 (0, 0))]) := by
 refine fn_enterD (args := [_, _, _]) func220 rfl ntmps220 rfl hw (sq (pl (ql rfl (RD.load (i := 1) isAgg270 rfl rfl rfl) (qn rfl (ql rfl (RD.load (i := 3) isAgg29 rfl rfl rfl) (qq rfl (RD.neq rfl rfl) (n0 ?_)))))))
 first | refine pn_condD rfl (fun hc0 => ?_) (fun hc0 => ?_) | refine pn_condN rfl (fun hc0 => ?_) (fun hc0 => ?_) | refine pn_cond rfl (fun hc0 => ?_) (fun hc0 => ?_)
 ·refine pl (ql rfl (RD.load (i := 2) isAgg85 rfl rfl rfl) (ql rfl (RD.load (i := 0) isAgg32 rfl rfl rfl) (qn rfl (qq rfl (RD.fieldAddr (o := 0) runUnderlying178 rfl rfl sizeOf32 rfl) (TE_store (i := 4) rfl sizeOf32 trivial rfl rfl rfl rfl rfl rfl (.inr (by simp)) (n0 ?_))))))
  (rw [if_neg hc0]; exact pn_doneD rfl rfl rfl (fun w h => h.sub (.cons _ (.cons _ (.cons _ (.cons _ (List.Sublist.refl _)))))) (by simp))
 ·refine sk ?_
  (rw [if_pos hc0]; exact pn_doneD rfl rfl rfl (fun w h => h.sub (.cons _ (.cons _ (.cons _ (.cons _ (List.Sublist.refl _)))))) (by simp))
theorem c_next (s : Nat) (w : World) : Calls Tryz.prog 201 #[.pointer (some ⟨s, 0, none⟩)] w (Ret w [] fun v H1 => ∃ x1, v = .func (.func 246) #[] #[.pointer (some ⟨x1, 0, none⟩)] ∧ H1 = [(x1, .cells #[.pointer (some ⟨s, 0, none⟩)] 85 (0, 0))]) := by
 refine fn_enter (args := [_]) func201 rfl ntmps201 rfl (Hp.nil w) (sq (pl (TE_box rfl rfl trivial rfl fun b1 hb1 => (qa rfl (n0 (sq (pl (qq rfl (RD.makeFunc rfl rfl) (qa rfl ?_)))))))))
 exact n0 (rt (pn_done rfl rfl ⟨b1, rfl, rfl⟩ (List.Sublist.refl _) (by simp; exact hb1)))
end Go.Proofs.YtcmnmigcalibdaaGreatDoor

namespace Go.Proofs.YtcmnmigcalibdaaGreatDoor
open Go.Proofs.Tryz
open Go Go.Mv
set_option maxRecDepth 8000
theorem it_next (HX : Mem) (x1 s : Nat) (a : Option Addr) (n c : Nat) (ys : List UInt8) (hb : Rdb HX (.slice a n c) ys) (hlen : ys.length ≤ 4611686018427387904) : Iter Tryz.prog 246 [.pointer (some ⟨x1, 0, none⟩)] (fun x => [bcell x]) ((x1, .cells #[.pointer (some ⟨s, 0, none⟩)] 85 (0, 0)) :: srcM s (.slice a n c) HX) ys (fun pre HI' => ∃ a' n' c', HI' = srcM s (.slice a' n' c') HX ∧ Rdb HX (.slice a' n' c') (ys.drop pre.length)) := by
 intro σ l HJ G S w s0 h0 hHp hy
 refine fn_enter (args := [_, _]) func246 rfl ntmps246 rfl hHp (pn_block (pn_loop (σ := List UInt8 × List UInt8 × Option Addr × Nat × Nat × σ) (fun _ => [(0, .func (.yield l) #[] #[]), (1, .pointer (some ⟨x1, 0, none⟩))]) (fun x => (x1, .cells #[.pointer (some ⟨s, 0, none⟩)] 85 (0, 0)) :: srcM s (.slice x.2.2.1 x.2.2.2.1 x.2.2.2.2.1) (HX ++ HJ x.2.2.2.2.2)) (fun x => ys = x.1 ++ x.2.1 ∧ Rdb HX (.slice x.2.2.1 x.2.2.2.1 x.2.2.2.2.1) x.2.1 ∧ G x.1 x.2.2.2.2.2 ∧ (∀ e ∈ HJ x.2.2.2.2.2, w.heap.size ≤ e.1 ∨ e.1 ∈ keys (((x1, .cells #[.pointer (some ⟨s, 0, none⟩)] 85 (0, 0)) :: srcM s (.slice a n c) HX) ++ HJ s0))) (fun x => x.2.1.length) ([], ys, a, n, c, s0) ⟨rfl, hb, h0, fun e he => .inr (mem_keys.2 ⟨e, by simp [he], rfl⟩)⟩ ⟨rfl, rfl, trivial⟩ (List.Sublist.refl _) ?_))
 rintro ⟨pre, rest, a', n', c', st⟩ ⟨hpre, hb', hG, hX⟩; dsimp only at hpre hb' hG hX ⊢; have hXs : ∀ e ∈ srcM s (.slice a' n' c') HX, e.1 ∈ keys (((x1, .cells #[.pointer (some ⟨s, 0, none⟩)] 85 (0, 0)) :: srcM s (.slice a n c) HX) ++ HJ s0) ∨ w.heap.size ≤ e.1 := (allC (Q := fun k => k ∈ keys (((x1, .cells #[.pointer (some ⟨s, 0, none⟩)] 85 (0, 0)) :: srcM s (.slice a n c) HX) ++ HJ s0) ∨ w.heap.size ≤ k) (.inl (by simp [srcM])) (fun e he => .inl (mem_keys.2 ⟨e, by simp [srcM, he], rfl⟩))); rcases rest with _ | ⟨ch, r⟩
 ·refine sq (sq (pn_plain [4] rfl (ql rfl (RD.load (i := 0) isAgg85 rfl rfl rfl) (qn rfl (qq rfl (RD.fieldAddr (o := 0) runUnderlying178 rfl rfl sizeOf32 rfl) (ql rfl (RD.load (i := 1) isAgg32 rfl rfl rfl) (qq rfl (RD.lenR runUnderlying32 rfl hb') (qq rfl (RD.gtr rfl rfl) (n0 ?_)))))))))
  refine pn_condF rfl (xt ?_)
  (rw [List.append_nil] at hpre; subst hpre; exact pn_done rfl rfl ⟨st, srcM s (.slice a' n' c') HX, rfl, .inl ⟨hG, a', n', c', rfl, by simpa using hb'⟩⟩ (List.sublist_cons_self _ _) (allA (Q := fun k => k ∈ _ ∨ _ ≤ k) hXs (fun e he => (hX e he).symm)))
 ·obtain ⟨bb, off, cap, hsl, hcap, hcell⟩ := hb'.cons; simp only [Value.slice.injEq] at hsl; obtain ⟨rfl, rfl, rfl⟩ := hsl; have hlr : r.length + 1 ≤ 4611686018427387904 := (by have := congrArg List.length hpre; simp only [List.length_append, List.length_cons] at this; omega); have hcut := hb'.cut (l := 1) (by simp); have hpx : (pre ++ [ch]) <+: ys := ⟨r, by rw [hpre, List.append_assoc]; rfl⟩; have hdr : ys.drop (pre ++ [ch]).length = r := (by rw [hpre, show pre ++ ch :: r = (pre ++ [ch]) ++ r from by simp, List.drop_left])
  refine sq (sq (pn_plain [4] rfl (ql rfl (RD.load (i := 0) isAgg85 rfl rfl rfl) (qn rfl (qq rfl (RD.fieldAddr (o := 0) runUnderlying178 rfl rfl sizeOf32 rfl) (ql rfl (RD.load (i := 1) isAgg32 rfl rfl rfl) (qq rfl (RD.lenR runUnderlying32 rfl hb') (qq rfl (RD.as (v := .bool true) (RD.gtr rfl rfl) (by rw [decide_eq_true (by simp only [List.length_cons]; omega)])) (n0 ?_)))))))))
  refine pn_condT rfl (sk (pn_block (sq (pl (ql rfl (RD.load (i := 0) isAgg85 rfl rfl rfl) (qn rfl (qq rfl (RD.fieldAddr (o := 0) runUnderlying178 rfl rfl sizeOf32 rfl) (ql rfl (RD.load (i := 1) isAgg32 rfl rfl rfl) (qq rfl (RD.indexAddrS runUnderlying32 sizeOf5 rfl rfl (by omega) (by omega)) ?_)))))))))
  refine ql rfl (RD.loadC isAgg5 rfl (fun w hw => hcell w (hw.left.sub (.cons _ (.cons _ (List.sublist_append_left _ _)))))) (qa rfl (n0 (sq (pn_drawT [0, 1] [1] [0] [_, _] (HX ++ HJ st) rfl rfl (by kernel_rfl) (by kernel_rfl) rfl rfl (qq rfl (RD.load (i := 0) isAgg85 rfl rfl rfl) (qq rfl (RD.load (i := 0) isAgg85 rfl rfl rfl) (qn rfl (qq rfl (RD.fieldAddr (o := 0) runUnderlying178 rfl rfl sizeOf32 rfl) (ql rfl (RD.load (i := 0) isAgg32 rfl rfl rfl) ?_)))))))))
  refine qq rfl (RD.sliceR (l := 1) (h := r.length + 1) runUnderlying32 sizeOf5 rfl hb' ⟨_, rfl⟩ (by simp) (by omega) (by simp)) (qn rfl (qq rfl (RD.fieldAddr (o := 0) runUnderlying178 rfl rfl sizeOf32 rfl) (TE_store (i := 0) rfl sizeOf32 trivial rfl rfl rfl rfl rfl rfl (.inr (by simp [srcM])) (TE_nil (sq (pn_pickT [1, 0] [_, _] (HX ++ HJ st) rfl rfl rfl (pl (qm rfl (qm rfl ?_)))))))))
  refine TE_yieldT (_ :: _ :: HX) (HJ st) rfl rfl rfl trivial rfl rfl rfl hX (fun W hW => hy pre ch st W hG hpx hW.fr (hW.hp.left.sub (.cons _ (.cons _ (List.sublist_append_right _ _))))) ?_
  rintro v26 H2 ⟨s', rfl, ⟨rfl, hG'⟩ | ⟨rfl, hS'⟩⟩ hX'
  all_goals refine TE_q rfl rfl (RD.not rfl) rfl ?_
  all_goals refine TE_nil0 ?_
  all_goals first
   | (
     refine pn_condT rfl (rt ?_)
     exact pn_done rfl rfl ⟨s', srcM s (subV 1 (r.length + 1) (.slice (some ⟨bb, off, none⟩) (r.length + 1) c')) HX, rfl, .inr ⟨pre ++ [ch], hpx, hS', _, _, _, rfl, by rw [hdr]; exact hcut⟩⟩ (List.sublist_cons_self _ _) (allA (Q := fun k => k ∈ _ ∨ _ ≤ k) (allC (Q := fun k => k ∈ _ ∨ _ ≤ k) (hXs (s, _) List.mem_cons_self) (oC hXs)) (where_ hX')))
   | (
     refine pn_condF rfl (sk ?_)
     (exact pn_again (pre ++ [ch], r, _, _, _, s') ⟨by rw [hpre, List.append_assoc]; rfl, hcut, hG', hX'⟩ (by show r.length < (ch :: r).length; simp) ⟨rfl, rfl, trivial⟩ (List.Sublist.refl _)))
   | (
     first | refine pn_condD rfl (fun hc1 => ?_) (fun hc1 => ?_) | refine pn_condN rfl (fun hc1 => ?_) (fun hc1 => ?_) | refine pn_cond rfl (fun hc1 => ?_) (fun hc1 => ?_)
     ·exact rt (pn_done rfl rfl ⟨s', srcM s (subV 1 (r.length + 1) (.slice (some ⟨bb, off, none⟩) (r.length + 1) c')) HX, rfl, .inr ⟨pre ++ [ch], hpx, hS', _, _, _, rfl, by rw [hdr]; exact hcut⟩⟩ (List.sublist_cons_self _ _) (allA (Q := fun k => k ∈ _ ∨ _ ≤ k) (allC (Q := fun k => k ∈ _ ∨ _ ≤ k) (hXs (s, _) List.mem_cons_self) (oC hXs)) (where_ hX')))
     ·refine sk ?_
      (exact pn_again (pre ++ [ch], r, _, _, _, s') ⟨by rw [hpre, List.append_assoc]; rfl, hcut, hG', hX'⟩ (by show r.length < (ch :: r).length; simp) ⟨rfl, rfl, trivial⟩ (List.Sublist.refl _)))
end Go.Proofs.YtcmnmigcalibdaaGreatDoor

namespace Go.Proofs.YtcmnmigcalibdaaGreatDoor
open Go.Proofs.Tryz
open Go Go.Mv
set_option maxRecDepth 8000
/-- What reading leaves: the value and no error, the source behind it; or an error. -/
def Reads {α : Type} (HX : Mem) (s : Nat) (enc : α → Value) (z : Value) (ys : List UInt8) (d : Dr α) (v : Value) (H1 : Mem) : Prop :=
  (∃ x r v', d = .ok x r ∧ v = .tuple #[enc x, .int .i64 0] ∧ H1 = srcM s v' HX ∧ Rdb HX v' r ∧ r.length ≤ ys.length) ∨
  (∃ e v' r, d = .err e ∧ e ≠ 0 ∧ v = .tuple #[z, .int .i64 e] ∧ H1 = srcM s v' HX ∧ Rdb HX v' r ∧ r.length ≤ ys.length)
abbrev NumS := Nat × Nat × Bool × Int
def numJ (b4 b5 b6 b7 : Nat) (x : NumS) : Mem := [(b7, .cells #[.bool x.2.2.1] 4 (0, 0)), (b6, .cells #[.int .i64 (x.2.1 : Int)] 3 (0, 0)), (b5, .cells #[.int .i64 x.2.2.2] 29 (0, 0)), (b4, .cells #[.int .u64 (x.1 : Int)] 128 (0, 0))]
/-- What is known while a number is read. -/
def numG (ys pre : List UInt8) (x : NumS) : Prop := x.2.1 = pre.length ∧ x.2.2.1 = false ∧ x.2.2.2 = 0 ∧ pre.length ≤ 9 ∧ x.1 < 128 ^ pre.length ∧ ∀ rest, ys = pre ++ rest → numR ys = decL rest pre.length x.1
def numT (ys : List UInt8) (c : Code) (pre : List UInt8) (x : NumS) : Prop :=
  (c = .ret ∧ x.1 = 0 ∧ x.2.2.2 = 11 ∧ numR ys = .form) ∨ (c = .exit 0 ∧ x.2.2.1 = true ∧ x.2.2.2 = 0 ∧ x.1 < 18446744073709551616 ∧ numR ys = .ok x.1 (ys.drop pre.length))
theorem numG0 (ys : List UInt8) : numG ys [] (0, 0, false, 0) := ⟨rfl, rfl, rfl, by decide, by decide, fun rest h => by rw [h]; rfl⟩
theorem numG_step {ys pre : List UInt8} {c : UInt8} {a m : Nat} {wh : Bool} {e : Int} (h : numG ys pre (a, m, wh, e)) (_ : (pre ++ [c]) <+: ys)
    (hf : ¬ ((m = 9 ∧ (c.toNat % 128 > 1 ∨ ¬ c.toNat < 128)) ∨ (c.toNat < 128 ∧ c.toNat % 128 = 0 ∧ 0 < m))) (hc : ¬ c.toNat < 128) : numG ys (pre ++ [c]) (a + c.toNat % 128 * 128 ^ m, m + 1, false, 0) := by
  obtain ⟨h1, h2, h3, h4, h5, h6⟩ := h
  dsimp only at h1 h2 h3 h5 h6
  subst h1
  refine ⟨by simp, rfl, rfl, by simp; omega, by simpa using acc_lt h5, fun rest hr => ?_⟩
  rw [h6 (c :: rest) (by rw [hr]; simp)]
  simp only [decL, if_neg hf, if_neg hc, List.length_append, List.length_cons, List.length_nil, Nat.zero_add]
theorem numT_form {ys pre : List UInt8} {c : UInt8} {a m : Nat} {wh wh' : Bool} {e : Int} (h : numG ys pre (a, m, wh, e)) (hpre : (pre ++ [c]) <+: ys)
    (hf : (m = 9 ∧ (c.toNat % 128 > 1 ∨ ¬ c.toNat < 128)) ∨ (c.toNat < 128 ∧ c.toNat % 128 = 0 ∧ 0 < m)) : numT ys .ret (pre ++ [c]) (0, m, wh', 11) := by
  obtain ⟨h1, h2, h3, h4, h5, h6⟩ := h
  dsimp only at h1 h2 h3 h5 h6
  subst h1
  obtain ⟨t, ht⟩ := hpre
  refine .inl ⟨rfl, rfl, rfl, ?_⟩
  rw [h6 (c :: t) (by rw [← ht]; simp)]
  simp only [decL, if_pos hf]
theorem numT_ok {ys pre : List UInt8} {c : UInt8} {a m : Nat} {wh : Bool} {e : Int} (h : numG ys pre (a, m, wh, e)) (hpre : (pre ++ [c]) <+: ys)
    (hf : ¬ ((m = 9 ∧ (c.toNat % 128 > 1 ∨ ¬ c.toNat < 128)) ∨ (c.toNat < 128 ∧ c.toNat % 128 = 0 ∧ 0 < m))) (hc : c.toNat < 128) : numT ys (.exit 0) (pre ++ [c]) (a + c.toNat % 128 * 128 ^ m, m + 1, true, 0) := by
  obtain ⟨h1, h2, h3, h4, h5, h6⟩ := h
  dsimp only at h1 h2 h3 h5 h6
  subst h1
  obtain ⟨t, ht⟩ := hpre
  have hn : numR ys = .ok (a + c.toNat % 128 * 128 ^ pre.length) t := by
    rw [h6 (c :: t) (by rw [← ht]; simp)]
    simp only [decL, if_neg hf, if_pos hc]
  refine .inr ⟨rfl, rfl, rfl, (numR_ok hn).2, ?_⟩
  rw [hn, ← ht, List.drop_left]
theorem num_short {ys : List UInt8} {x : NumS} (h : numG ys ys x) : numR ys = .short := by
  rw [h.2.2.2.2.2 [] (by simp)]; rfl

theorem num_end {HX : Mem} {s : Nat} {ys : List UInt8} {w : World} {a a' : Option Addr} {n c n' c' D b4 b5 b6 b7 x2 x3 x5 : Nat} {E : Env} {acc m : Nat} {wh : Bool} {ev : Int} {d : Dr Nat} (h4 : E.get 4 = some (.pointer (some ⟨b4, 0, none⟩))) (h5 : E.get 5 = some (.pointer (some ⟨b5, 0, none⟩))) (hD : w.heap.size ≤ D)
    (hres : Reads HX s (fun n : Nat => .int .u64 (n : Int)) (.int .u64 0) ys d (.tuple #[.int .u64 (acc : Int), .int .i64 ev]) (srcM s (if ev = 0 then .slice a' n' c' else .slice a n c) HX)) :
    PN ⟨60, [{ target := .collected D, args := #[] }, { target := .fn (.func 220) #[.pointer (some ⟨x3, 0, none⟩), .pointer (some ⟨x5, 0, none⟩), .pointer (some ⟨x2, 0, none⟩)], args := #[] }], w, keys (srcM s (.slice a n c) HX)⟩ (retP Tryz.prog Tryz.f161 (Ret w (keys (srcM s (.slice a n c) HX)) (Reads HX s (fun n : Nat => .int .u64 (n : Int)) (.int .u64 0) ys d))) E
      (numJ b4 b5 b6 b7 (acc, m, wh, ev) ++ (srcM s (.slice a' n' c') HX ++ ((D, .deferred (some [])) :: [(x5, .cells #[.slice a n c] 32 (0, 0)), (x3, .cells #[.pointer (some ⟨b5, 0, none⟩)] 270 (0, 0)), (x2, .cells #[.pointer (some ⟨s, 0, none⟩)] 85 (0, 0))]))) := by
  refine lv_ret (lv_mark (numJ b4 b5 b6 b7 (acc, m, wh, ev) ++ srcM s (.slice a' n' c') HX) [(x5, .cells #[.slice a n c] 32 (0, 0)), (x3, .cells #[.pointer (some ⟨b5, 0, none⟩)] 270 (0, 0)), (x2, .cells #[.pointer (some ⟨s, 0, none⟩)] 85 (0, 0))] (by simp) hD ?_)
  refine lv_call (numJ b4 b5 b6 b7 (acc, m, wh, ev) ++ ([(x5, .cells #[.slice a n c] 32 (0, 0)), (x3, .cells #[.pointer (some ⟨b5, 0, none⟩)] 270 (0, 0)), (x2, .cells #[.pointer (some ⟨s, 0, none⟩)] 85 (0, 0))] ++ HX)) [(s, .cells #[.slice a' n' c'] 178 (0, 0))] (fun w h => ?_) call220 (allC (Q := fun k => w.heap.size ≤ k ∨ k ∈ keys (srcM s (.slice a n c) HX)) (.inr (by simp [srcM])) (allN (Q := fun k => w.heap.size ≤ k ∨ k ∈ keys (srcM s (.slice a n c) HX)))) (fun w h => ?_) (post' := fun _ H1 => H1 = [(s, .cells #[if ev = 0 then .slice a' n' c' else .slice a n c] 178 (0, 0))]) ?_
  · have h1 : Hp (numJ b4 b5 b6 b7 (acc, m, wh, ev) ++ ([(x5, .cells #[.slice a n c] 32 (0, 0)), (x3, .cells #[.pointer (some ⟨b5, 0, none⟩)] 270 (0, 0)), (x2, .cells #[.pointer (some ⟨s, 0, none⟩)] 85 (0, 0))] ++ srcM s (.slice a' n' c') HX)) w := h.perm (by rw [List.append_assoc]; exact List.Perm.append_left _ List.perm_append_comm)
    exact (Hp.pickT (A := [_, _, _, _, _, _, _, _]) (T := HX) (is := [7, 0, 1, 2, 3, 4, 5, 6]) h1 rfl rfl).perm (List.perm_append_comm (l₁ := [_]))
  · have h1 : Hp ([(s, .cells #[.slice a' n' c'] 178 (0, 0))] ++ (numJ b4 b5 b6 b7 (acc, m, wh, ev) ++ ([(x5, .cells #[.slice a n c] 32 (0, 0)), (x3, .cells #[.pointer (some ⟨b5, 0, none⟩)] 270 (0, 0)), (x2, .cells #[.pointer (some ⟨s, 0, none⟩)] 85 (0, 0))] ++ HX))) w := h.perm List.perm_append_comm
    exact c_back1 s b5 x2 x3 x5 a a' n c n' c' ev w (Hp.pickT (A := [_, _, _, _, _, _, _, _]) (T := HX) (is := [5, 6, 7, 3, 0]) h1 rfl rfl).left
  · rintro v H1 rfl -
    refine lv_end (l := [.cell 4 128, .cell 5 29]) (H1 := srcM s (if ev = 0 then .slice a' n' c' else .slice a n c) HX) rfl ⟨_, _, b4, 0, rfl, h4, load_cell (i := 3) isAgg128 rfl rfl, _, _, b5, 0, rfl, h5, load_cell (i := 2) isAgg29 rfl rfl, rfl⟩ hres (fun w h => ?_) in_src
    have h1 : Hp ([(s, .cells #[if ev = 0 then .slice a' n' c' else .slice a n c] 178 (0, 0))] ++ (numJ b4 b5 b6 b7 (acc, m, wh, ev) ++ ([(x5, .cells #[.slice a n c] 32 (0, 0)), (x3, .cells #[.pointer (some ⟨b5, 0, none⟩)] 270 (0, 0)), (x2, .cells #[.pointer (some ⟨s, 0, none⟩)] 85 (0, 0))] ++ HX))) w := h.perm List.perm_append_comm
    exact (Hp.pickT (A := [_, _, _, _, _, _, _, _]) (T := HX) (is := [0]) h1 rfl rfl)

set_option maxHeartbeats 2000000 in
theorem c_num (HX : Mem) (s most : Nat) (sv : Value) (ys : List UInt8) (w : World) (hb : Rdb HX sv ys) (hlen : ys.length ≤ 4611686018427387904) (_ : most < 18446744073709551616) (hw : Hp (srcM s sv HX) w) : Calls Tryz.prog 161 #[.pointer (some ⟨s, 0, none⟩), .int .u64 (most : Int)] w (Ret w (keys (srcM s sv HX)) (Reads HX s (fun n : Nat => .int .u64 (n : Int)) (.int .u64 0) ys (numD most ys))) := by
 obtain ⟨a, c, rfl⟩ := hb.shape
 generalize hn : ys.length = n at *
 refine fn_enter (args := [_, _]) func161 rfl ntmps161 rfl hw (sq (pl (TE_alloc rfl zeroValue128 trivial rfl fun b4 hb4 => (TE_alloc rfl zeroValue29 trivial rfl fun b5 hb5 => (n0 (pn_scope (sq (sq (pl ?_)))))))))
 refine qm rfl (qq rfl (RD.ptr_eql_nil runUnderlying85 rfl rfl) (n0 (pn_condF rfl (sk (sq (pl (qm rfl (TE_call rfl rfl trivial call173 rfl rfl rfl (fun w hs' => c_back s b5 a n c w (hs'.hp.left.sub (.cons _ (.cons _ (.cons_cons _ (List.nil_sublist _)))))) ?_))))))))
 rintro v13 H1 ⟨x2, x3, x5, rfl, rfl⟩ hxs
 refine TE_defer rfl trivial rfl rfl (n0 (sq (pl (TE_alloc rfl zeroValue3 trivial rfl fun b6 hb6 => (TE_alloc rfl zeroValue4 trivial rfl fun b7 hb7 => (TE_store (i := 1) rfl sizeOf3 trivial rfl rfl rfl rfl rfl rfl (.inl (by assumption)) (TE_store (i := 0) rfl sizeOf4 trivial rfl rfl rfl rfl rfl rfl (.inl (by assumption)) (n0 (sq ?_)))))))))
 refine pn_label (sq (sq (pl (qm rfl (TE_call rfl rfl trivial call201 rfl rfl rfl (fun w hs' => c_next s w) ?_)))))
 rintro v15 H1 ⟨x1, rfl, rfl⟩ hx1
 refine n0 (pn_block (pn_rangeH (τ := Unit) (HI := (x1, .cells #[.pointer (some ⟨s, 0, none⟩)] 85 (0, 0)) :: srcM s (.slice a n c) HX) (HR := [(x5, .cells #[.slice a n c] 32 (0, 0)), (x3, .cells #[.pointer (some ⟨b5, 0, none⟩)] 270 (0, 0)), (x2, .cells #[.pointer (some ⟨s, 0, none⟩)] 85 (0, 0))]) (it_next HX x1 s a n c ys hb (by omega)) (numJ b4 b5 b6 b7) (numG ys) (numT ys) (0, 0, false, 0) (numG0 ys) rfl call246 (by intro x; rfl) rfl (fun w h => (Hp.pickT (A := [_, _, _, _, _, _, _, _, _]) (T := HX) (is := [1, 2, 6, 7, 3, 4, 5, 0, 8]) h rfl rfl).perm (List.perm_append_comm (l₁ := [_, _, _, _, _, _, _]))) (allA (Q := fun k => w.heap.size ≤ k ∨ k ∈ keys (srcM s (.slice a n c) HX)) (allC (Q := fun k => w.heap.size ≤ k ∨ k ∈ keys (srcM s (.slice a n c) HX)) (.inl (hx1 (x1, _) List.mem_cons_self)) (fun e he => .inr (mem_keys.2 ⟨e, he, rfl⟩))) (allC (Q := fun k => w.heap.size ≤ k ∨ k ∈ keys (srcM s (.slice a n c) HX)) (.inl hb7) (allC (Q := fun k => w.heap.size ≤ k ∨ k ∈ keys (srcM s (.slice a n c) HX)) (.inl hb6) (allC (Q := fun k => w.heap.size ≤ k ∨ k ∈ keys (srcM s (.slice a n c) HX)) (.inl hb5) (allC (Q := fun k => w.heap.size ≤ k ∨ k ∈ keys (srcM s (.slice a n c) HX)) (.inl hb4) (allN (Q := fun k => w.heap.size ≤ k ∨ k ∈ keys (srcM s (.slice a n c) HX)))))))) (fun x _ => [(8, bcell x), (7, .pointer (some ⟨b7, 0, none⟩)), (6, .pointer (some ⟨b6, 0, none⟩)), (5, .pointer (some ⟨b5, 0, none⟩)), (4, .pointer (some ⟨b4, 0, none⟩)), (0, .pointer (some ⟨s, 0, none⟩)), (1, .int .u64 (most : Int))]) (fun _ _ => []) (fun _ _ => True) ?_ ?_ ?_ ?_))
 ·intro W l1 pre x y R hW hG hpre
  refine pl (qa rfl (n0 ?_))
  (exact fun a w hr hs => ⟨(), trivial, hr.keeps ⟨rfl, rfl, rfl, rfl, rfl, rfl, rfl, trivial⟩, hs⟩)
 ·rintro W l1 pre ch ⟨acc, m, wh, e⟩ t R hW hG hpre -; have hG' := hG; obtain ⟨h1, h2, h3, h4, h5, h6⟩ := hG'; dsimp only at h1 h2 h3 h5 h6; subst h2; subst h3; rw [← h1] at h4 h5; have hch : ch.toNat < 256 := ch.toNat_lt
  refine pn_block (sq (pn_plain [2] rfl (qm rfl (qq rfl (RD.as (RD.rem rfl rfl (by decide)) (rem128 ch.toNat)) (qq rfl (RD.as (RD.conv runUnderlying5 runUnderlying128 rfl) (u64_len (by omega))) (qa rfl (n0 (sq (sq ?_)))))))))
  refine pl (qm rfl (qq rfl (RD.lss rfl rfl) (TE_store (i := 0) rfl sizeOf4 trivial rfl rfl rfl rfl rfl rfl (.inr (by simp [numJ])) (n0 (sq (pn_cut (σ := Unit) (fun _ => [(42, .bool (decide ((m = 9 ∧ (ch.toNat % 128 > 1 ∨ ¬ ch.toNat < 128)) ∨ (ch.toNat < 128 ∧ ch.toNat % 128 = 0 ∧ 0 < m)))), (9, .int .u64 ((ch.toNat % 128 : Nat) : Int)), (8, bcell ch), (7, .pointer (some ⟨b7, 0, none⟩)), (6, .pointer (some ⟨b6, 0, none⟩)), (5, .pointer (some ⟨b5, 0, none⟩)), (4, .pointer (some ⟨b4, 0, none⟩)), (0, .pointer (some ⟨s, 0, none⟩)), (1, .int .u64 (most : Int))]) (fun _ => ((b7, .cells #[.bool (decide ((ch.toNat : Int) < 128))] 4 (0, 0)) :: (b6, .cells #[.int .i64 (m : Int)] 3 (0, 0)) :: (b5, .cells #[.int .i64 0] 29 (0, 0)) :: (b4, .cells #[.int .u64 (acc : Int)] 128 (0, 0)) :: ([(x5, .cells #[.slice a n c] 32 (0, 0)), (x3, .cells #[.pointer (some ⟨b5, 0, none⟩)] 270 (0, 0)), (x2, .cells #[.pointer (some ⟨s, 0, none⟩)] 85 (0, 0))] ++ R))) (fun _ => True) ?_ ?_))))))
  ·refine pl (ql rfl (RD.load (i := 1) isAgg3 rfl rfl rfl) (qq rfl (RD.eql rfl rfl) (qm rfl ?_)))
   (first | refine TE_isT ?_ | refine TE_isF ?_ | refine TE_dec (fun h902 => ?_) (fun h902 => ?_) | refine TE_ndec (fun h902 => ?_) (fun h902 => ?_) | refine TE_bool (fun h902 => ?_) (fun h902 => ?_))
   all_goals (first | (refine TE_s rfl rfl rfl rfl rfl ?_) | (refine TE_gq rfl rfl rfl rfl (RD.move rfl) rfl ?_))
   all_goals (first | (refine TE_s rfl rfl rfl rfl rfl ?_) | (refine TE_gq rfl rfl rfl rfl (RD.gtr rfl rfl) rfl ?_))
   all_goals (first | (refine TE_s rfl rfl rfl rfl rfl ?_) | (refine TE_gq rfl rfl rfl rfl (RD.move rfl) rfl ?_))
   all_goals (first | refine TE_isT ?_ | refine TE_isF ?_ | refine TE_dec (fun h905 => ?_) (fun h905 => ?_) | refine TE_ndec (fun h905 => ?_) (fun h905 => ?_) | refine TE_bool (fun h905 => ?_) (fun h905 => ?_) | skip)
   all_goals (first | (refine TE_s rfl rfl rfl rfl rfl ?_) | (refine TE_su rfl rfl rfl rfl ?_) | (refine TE_l rfl rfl ⟨_, rfl, rfl⟩ rfl (RD.load (i := 0) isAgg4 rfl rfl rfl) rfl ?_))
   all_goals (first | (refine TE_s rfl rfl rfl rfl rfl ?_) | (refine TE_su rfl rfl rfl rfl ?_) | (refine TE_gq rfl rfl rfl rfl (RD.not rfl) rfl ?_))
   all_goals (first | (refine TE_s rfl rfl rfl rfl rfl ?_) | (refine TE_gq rfl rfl rfl rfl (RD.pickT rfl rfl) rfl ?_) | (refine TE_gq rfl rfl rfl rfl (RD.pickF rfl rfl) rfl ?_))
   all_goals (first | (refine TE_q rfl rfl (RD.pickT rfl rfl) rfl ?_) | (refine TE_q rfl rfl (RD.pickF rfl rfl) rfl ?_))
   all_goals refine TE_q rfl rfl (RD.move rfl) rfl ?_
   all_goals (first | refine TE_isT ?_ | refine TE_isF ?_ | refine TE_dec (fun h910 => ?_) (fun h910 => ?_) | refine TE_ndec (fun h910 => ?_) (fun h910 => ?_) | refine TE_bool (fun h910 => ?_) (fun h910 => ?_))
   all_goals (first | (refine TE_s rfl rfl rfl rfl rfl ?_) | (refine TE_l rfl rfl ⟨_, rfl, rfl⟩ rfl (RD.load (i := 0) isAgg4 rfl rfl rfl) rfl ?_))
   all_goals (first | (refine TE_s rfl rfl rfl rfl rfl ?_) | (refine TE_gq rfl rfl rfl rfl (RD.move rfl) rfl ?_))
   all_goals (first | refine TE_isT ?_ | refine TE_isF ?_ | refine TE_dec (fun h912 => ?_) (fun h912 => ?_) | refine TE_ndec (fun h912 => ?_) (fun h912 => ?_) | refine TE_bool (fun h912 => ?_) (fun h912 => ?_) | skip)
   all_goals (first | (refine TE_s rfl rfl rfl rfl rfl ?_) | (refine TE_su rfl rfl rfl rfl ?_) | (refine TE_gq rfl rfl rfl rfl (RD.move rfl) rfl ?_))
   all_goals (first | (refine TE_s rfl rfl rfl rfl rfl ?_) | (refine TE_su rfl rfl rfl rfl ?_) | (refine TE_gq rfl rfl rfl rfl (RD.eql rfl rfl) rfl ?_))
   all_goals (first | (refine TE_s rfl rfl rfl rfl rfl ?_) | (refine TE_gq rfl rfl rfl rfl (RD.pickT rfl rfl) rfl ?_) | (refine TE_gq rfl rfl rfl rfl (RD.pickF rfl rfl) rfl ?_))
   all_goals (first | (refine TE_s rfl rfl rfl rfl rfl ?_) | (refine TE_gq rfl rfl rfl rfl (RD.move rfl) rfl ?_))
   all_goals (first | refine TE_isT ?_ | refine TE_isF ?_ | refine TE_dec (fun h916 => ?_) (fun h916 => ?_) | refine TE_ndec (fun h916 => ?_) (fun h916 => ?_) | refine TE_bool (fun h916 => ?_) (fun h916 => ?_) | skip)
   all_goals (first | (refine TE_s rfl rfl rfl rfl rfl ?_) | (refine TE_su rfl rfl rfl rfl ?_) | (refine TE_l rfl rfl ⟨_, rfl, rfl⟩ rfl (RD.load (i := 1) isAgg3 rfl rfl rfl) rfl ?_))
   all_goals (first | (refine TE_s rfl rfl rfl rfl rfl ?_) | (refine TE_su rfl rfl rfl rfl ?_) | (refine TE_gq rfl rfl rfl rfl (RD.gtr rfl rfl) rfl ?_))
   all_goals (first | (refine TE_s rfl rfl rfl rfl rfl ?_) | (refine TE_gq rfl rfl rfl rfl (RD.pickT rfl rfl) rfl ?_) | (refine TE_gq rfl rfl rfl rfl (RD.pickF rfl rfl) rfl ?_))
   all_goals (first | (refine TE_q rfl rfl (RD.pickT rfl rfl) rfl ?_) | (refine TE_q rfl rfl (RD.pickF rfl rfl) rfl ?_))
   all_goals refine TE_nil0 ?_
   all_goals ((try dsimp only at *); first | (have hF : ((m = 9 ∧ (ch.toNat % 128 > 1 ∨ ¬ ch.toNat < 128)) ∨ (ch.toNat < 128 ∧ ch.toNat % 128 = 0 ∧ 0 < m)) := (by omega); exact pn_give () trivial ⟨by rw [decide_eq_true hF]; rfl, rfl, rfl, rfl, rfl, rfl, rfl, rfl, rfl, trivial⟩ (fun w h => h)) | (have hF : ¬ ((m = 9 ∧ (ch.toNat % 128 > 1 ∨ ¬ ch.toNat < 128)) ∨ (ch.toNat < 128 ∧ ch.toNat % 128 = 0 ∧ 0 < m)) := (by omega); exact pn_give () trivial ⟨by rw [decide_eq_false hF]; rfl, rfl, rfl, rfl, rfl, rfl, rfl, rfl, rfl, trivial⟩ (fun w h => h)) | (have hF : ((m = 9 ∧ (ch.toNat % 128 > 1 ∨ ¬ ch.toNat < 128)) ∨ (ch.toNat < 128 ∧ ch.toNat % 128 = 0 ∧ 0 < m)) ↔ (0 : Int) < (m : Int) := (by omega); exact pn_give () trivial ⟨by rw [decide_eq_decide.2 hF]; rfl, rfl, rfl, rfl, rfl, rfl, rfl, rfl, rfl, trivial⟩ (fun w h => h)))
  rintro - -
  first | refine pn_condD rfl (fun hc1 => ?_) (fun hc1 => ?_) | refine pn_condN rfl (fun hc1 => ?_) (fun hc1 => ?_) | refine pn_cond rfl (fun hc1 => ?_) (fun hc1 => ?_)
  ·exact sq (pl (TE_store (i := 3) rfl sizeOf128 trivial rfl rfl rfl rfl rfl rfl (.inr (by simp [numJ])) (TE_store (i := 2) rfl sizeOf29 trivial rfl rfl rfl rfl rfl rfl (.inr (by simp [numJ])) (n0 (rt (pn_endR (σ := NumS) (HJ := numJ b4 b5 b6 b7) (s := (acc, m, false, 0)) (l := l1) (R := R) (0, m, decide ((ch.toNat : Int) < 128), 11) rfl (numT_form hG hpre hc1) (fun w h => h.sub (.cons_cons _ (.cons_cons _ (.cons_cons _ (.cons_cons _ (.cons _ (.cons _ (.cons _ (List.Sublist.refl _))))))))) in_keys))))))
  ·refine sk (sq (pn_drawT [2] [3] [0, 1, 2, 4, 5, 6] [_, _, _, _, _, _, _] R rfl rfl (by kernel_rfl) (by kernel_rfl) rfl rfl (ql rfl (RD.load (i := 0) isAgg128 rfl rfl rfl) (qm rfl (qq rfl (RD.load (i := 1) isAgg3 rfl rfl rfl) (qq rfl (RD.mulI rfl rfl (by omega) (by omega)) (qq rfl (RD.as (RD.shl rfl rfl (by omega)) (shl_low (m := ch.toNat % 128) (by omega) (low_lt h4 hc1))) (qq rfl (RD.as (RD.orU rfl rfl (acc_lt64 h4 h5) (low_lt h4 hc1)) (by rw [or_low h5])) (TE_store (i := 0) rfl sizeOf128 trivial rfl rfl rfl rfl rfl rfl (.inr (by simp [numJ])) ?_)))))))))
   refine TE_nil (sq (pn_pickT [1, 2, 3, 0, 4, 5, 6] [_, _, _, _, _, _, _] R rfl rfl rfl (pl (ql rfl (RD.load (i := 1) isAgg3 rfl rfl rfl) (qq rfl (RD.addI rfl rfl (by omega) (by omega)) (TE_store (i := 1) rfl sizeOf3 trivial rfl rfl rfl rfl rfl rfl (.inr (by simp [numJ])) (n0 (sq (pl ?_)))))))))
   refine ql rfl (RD.load (i := 0) isAgg4 rfl rfl rfl) (n0 ?_)
   first | refine pn_condD rfl (fun hc2 => ?_) (fun hc2 => ?_) | refine pn_condN rfl (fun hc2 => ?_) (fun hc2 => ?_) | refine pn_cond rfl (fun hc2 => ?_) (fun hc2 => ?_)
   ·refine xt ?_
    (exact pn_endR (σ := NumS) (HJ := numJ b4 b5 b6 b7) (s := (acc, m, false, 0)) (l := l1) (R := R) (acc + ch.toNat % 128 * 128 ^ m, m + 1, decide ((ch.toNat : Int) < 128), 0) rfl (by rw [show decide ((ch.toNat : Int) < 128) = true from decide_eq_true (by omega)]; exact numT_ok hG hpre hc1 (by omega)) (fun w h => h.sub (.cons_cons _ (.cons_cons _ (.cons_cons _ (.cons_cons _ (.cons _ (.cons _ (.cons _ (List.Sublist.refl _))))))))) in_keys)
   ·refine sk ?_
    (exact pn_endR (σ := NumS) (HJ := numJ b4 b5 b6 b7) (s := (acc, m, false, 0)) (l := l1) (R := R) (acc + ch.toNat % 128 * 128 ^ m, m + 1, decide ((ch.toNat : Int) < 128), 0) rfl (by rw [show decide ((ch.toNat : Int) < 128) = false from decide_eq_false (by omega)]; exact numG_step hG hpre hc1 (by omega)) (fun w h => h.sub (.cons_cons _ (.cons_cons _ (.cons_cons _ (.cons_cons _ (.cons _ (.cons _ (.cons _ (List.Sublist.refl _))))))))) in_keys)
 ·rintro D HI' ⟨acc, m, wh, e⟩ hD hG ⟨a', n', c', rfl, hb'⟩; have hG' := hG; obtain ⟨h1, h2, h3, h4, h5, h6⟩ := hG'; dsimp only at h1 h2 h3 h5 h6; subst h2; subst h3
  refine sq (pn_block (sq (pl (ql rfl (RD.load (i := 0) isAgg4 rfl rfl rfl) (qq rfl (RD.not rfl) (qa rfl (n0 (pn_condT rfl (sq ?_)))))))))
  exact pl (TE_store (i := 3) rfl sizeOf128 trivial rfl rfl rfl rfl rfl rfl (.inl hb4) (TE_store (i := 2) rfl sizeOf29 trivial rfl rfl rfl rfl rfl rfl (.inl hb5) (n0 (rt (num_end rfl rfl hD (.inr ⟨10, _, ys, by simp only [numD, num_short hG], by decide, rfl, rfl, hb, Nat.le_refl _⟩))))))
 ·rintro D HI' c0 pre ⟨acc, m, wh, e⟩ hD hpre hS ⟨a', n', c', rfl, hb'⟩; rcases hS with ⟨rfl, h1, h2, h3⟩ | ⟨rfl, h1, h2, h4, h3⟩; (dsimp only at h1 h2; subst h1; subst h2; refine pn_ret ?_; exact num_end rfl rfl hD (.inr ⟨11, _, ys, by simp only [numD, h3], by decide, rfl, rfl, hb, Nat.le_refl _⟩)); dsimp only at h1 h2 h3 h4; subst h1; subst h2; refine pn_exit ?_
  refine sq (pn_block (sq (pl (ql rfl (RD.load (i := 0) isAgg4 rfl rfl rfl) (qq rfl (RD.not rfl) (qa rfl (n0 (pn_condF rfl (sq ?_)))))))))
  refine pl (ql rfl (RD.load (i := 3) isAgg128 rfl rfl rfl) (qm rfl (qq rfl (RD.gtr rfl rfl) (qa rfl (n0 ?_)))))
  first | refine pn_condD rfl (fun hc5 => ?_) (fun hc5 => ?_) | refine pn_condN rfl (fun hc5 => ?_) (fun hc5 => ?_) | refine pn_cond rfl (fun hc5 => ?_) (fun hc5 => ?_)
  ·exact sq (pl (TE_store (i := 3) rfl sizeOf128 trivial rfl rfl rfl rfl rfl rfl (.inl hb4) (TE_store (i := 2) rfl sizeOf29 trivial rfl rfl rfl rfl rfl rfl (.inl hb5) (n0 (rt (num_end rfl rfl hD (.inr ⟨12, _, ys, by simp only [numD, h3]; rw [if_pos (by omega)], by decide, rfl, rfl, hb, Nat.le_refl _⟩)))))))
  ·exact sk (sq (pl (ql rfl (RD.load (i := 3) isAgg128 rfl rfl rfl) (TE_store (i := 3) rfl sizeOf128 trivial rfl rfl rfl rfl rfl rfl (.inl hb4) (TE_store (i := 2) rfl sizeOf29 trivial rfl rfl rfl rfl rfl rfl (.inl hb5) (n0 (rt (num_end rfl rfl hD (.inl ⟨acc, _, _, by simp only [numD, h3]; rw [if_neg (by omega)], rfl, rfl, hb', by simp⟩)))))))))
end Go.Proofs.YtcmnmigcalibdaaGreatDoor
