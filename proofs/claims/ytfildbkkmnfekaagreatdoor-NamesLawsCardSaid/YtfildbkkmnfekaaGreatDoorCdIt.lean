/- The walk over the candidates. -/
import Derived.Test.YtfildbkkmnfekaaGreatDoorKnA
import Derived.Test.YtfildbkkmnfekaaGreatDoorG26
import Derived.Test.YtfildbkkmnfekaaGreatDoorRangeB
import Derived.RangeFuncNested
import Derived.RangeFuncBound
import Derived.RangeFuncCalls
import Derived.RangeFuncLeaves
import Derived.Shelf.Abstract
import Derived.Shelf.RegionOpen
import Derived.WalkKit
import Derived.OwnWalkIn
import Derived.TacticsInMore
import Derived.LoopNIn
import Derived.LoopIn
import Derived.Lib.Hide
import Derived.WalkSpells
import Derived.WalkLawsBesides
import Derived.Deep.DeepFit
import Derived.Lib.AppendIntMem
namespace Go.Proofs.YtfildbkkmnfekaaGreatDoor
open Go.RowKit Go.Shelf
attribute [local go_sem] Oper.semAt_some

/-- What the walk over the candidates asks of the functions that it calls. -/
structure CandFns (g1 g2 : Nat) (m : Ment) (NS : List Nm) (TS : List ByteArray) (OT : ByteArray) (fr : ByteArray → ByteArray) : Prop where
  known : ∀ W, MapsAt W g1 g2 m → Calls Tryz.prog 76 #[.agg #[.map (some g1), .map (some g2)]] W fun e w' => ∃ A n c v2 mid, e = .returned (.tuple #[.slice A n c, v2]) ∧ RowV w' (fun b => W.heap.size ≤ b ∧ b < mid) 2 nmV NS A n ∧ n ≤ c ∧ OwnV w' mid 9 1 strV TS v2 ∧ W.heap.size ≤ mid ∧ mid ≤ w'.heap.size ∧ Below W.heap.size W w'
  other : ∀ W, MapsAt W g1 g2 m → Tab W → Calls Tryz.prog 77 #[.agg #[.map (some g1), .map (some g2)]] W fun e w' => e = .returned (.string OT) ∧ Below W.heap.size W w'
  fresh : ∀ s W, MapsAt W g1 g2 m → Tab W → Calls Tryz.prog 78 #[.agg #[.map (some g1), .map (some g2)], .string s] W fun e w' => e = .returned (.agg #[.string s, .string (fr s)]) ∧ Below W.heap.size W w'
/-- append onto what the call owns, in a fence. -/
theorem wpListIn_ownB {F : Fence} {n : Nat} {P : Program} {ops : Array Oper} {rest : List Oper} {o : Oper} {a : Act} {Q : Exit → Act → World → Prop} {w : World} (hgd : o.guard = none) (s x : Operand) (t : TypeId)
    (hop : o.op = .call { callee := .builtin .append, args := #[s, x], argTypes := #[t, t] }) {α : Type} {cells : α → List Value} {e : TypeId} {z : Value} {sz bytes : Nat} (hT : ElemTy P t e z sz bytes)
    (h1 : ∀ (l : List α), ∀ u ∈ l.flatMap cells, u.oneCell' = true) (base : Nat) (l l2 : List α) (v : Value) (hs : a.eval s = v) (hown : OwnV w base e sz cells l v)
    (A : Option Addr) (m c : Nat) (hx : a.eval x = .slice A m c) (hr : Src w sz A m (l2.flatMap cells)) (hm : m = l2.length) (hnm : l.length + m < 4000000) (hbase : base ≤ w.heap.size)
    (h : ∀ v' w', OwnV w' base e sz cells (l ++ l2) v' → w.grownBy w' v.ownBlock → (v'.ownBlock = v.ownBlock ∨ v'.ownBlock = some w.heap.size) → wpListIn F n P ops Q rest (a.put o.dst v') w') : wpListIn F n P ops Q (o :: rest) a w := by
  obtain ⟨ht, i, hi, hz, hsz, hby, hzs, h0, hbt⟩ := hT
  refine wpListIn_plain hgd fun K hK' => ?_
  obtain ⟨v', w', hrun, r1, r2, r3⟩ := run_app (P := P) w base t o.type e i z sz bytes ht hi hz hsz hby hzs h0 v _ _ hown A m c _ hr (h1 l2) hnm hbt hbase
  unfold Oper.wpIn
  refine ⟨?_, ?_⟩
  · simp [Oper.about, hop, resolve, Target.leads, Sem.run_pure]
  · rw [Oper.semAt_plain F _ _ (by rw [hop]; intro c hc'; cases hc')]
    simp [execOp, hop, resolve, invoke, builtin, hs, hx, hrun, Result.andThen]
    exact hK' _ _ (h v' w' (by unfold OwnV; rw [List.length_append, List.flatMap_append, ← hm]; exact r1) r2 r3)
theorem OwnV.from {α : Type} {w w' : World} {base : Nat} {e : TypeId} {sz : Nat} {cells : α → List Value} {l : List α} {v : Value} (h : OwnV w base e sz cells l v) (hk : ∀ k, base ≤ k → k < w.heap.size → w'.heap[k]? = w.heap[k]?) : OwnV w' base e sz cells l v := by
  refine ⟨h.1, ?_⟩
  rcases h.2 with h2 | ⟨g, cap, cur, rfl, hg, hh, r⟩
  · exact .inl h2
  · have hlt := hp_lt hh
    exact .inr ⟨g, cap, cur, rfl, hg, by rw [hk g hg hlt]; exact hh, r⟩
theorem OwnV.block_lt {α : Type} {w : World} {base : Nat} {e : TypeId} {sz : Nat} {cells : α → List Value} {l : List α} {v : Value} {k : Nat} (h : OwnV w base e sz cells l v) (hv : v.ownBlock = some k) : base ≤ k ∧ k < w.heap.size := by
  rcases h.2 with ⟨rfl, _⟩ | ⟨g, cap, cur, rfl, hg, hh, r⟩
  · cases hv
  · cases hv
    exact ⟨hg, hp_lt hh⟩
theorem OwnV.rowAt {α : Type} {w : World} {base : Nat} {e : TypeId} {sz : Nat} {cells : α → List Value} {l : List α} {v : Value} (h : OwnV w base e sz cells l v) (hl : ∀ x, (cells x).length = sz) (hsz : 0 < sz) (F : Nat → Prop) (hF : ∀ b, v.ownBlock = some b → F b) :
    ∃ A c, v = .slice A l.length c ∧ RowV w F sz cells l A l.length ∧ l.length ≤ c ∧ c ≤ maxLen := by
  obtain ⟨A, c, rfl, hr, h1, h2⟩ := h.row hl hsz
  refine ⟨A, c, rfl, ⟨hr.1, fun hp => ?_⟩, h1, h2⟩
  obtain ⟨b, off, hA, hb, hc⟩ := hr.2 hp
  exact ⟨b, off, hA, hF b (by rw [hA]; rfl), hc⟩
def candsOf (NS : List Nm) (TS : List ByteArray) (OT : ByteArray) (fr : ByteArray → ByteArray) : List Nm := NS ++ (TS ++ [OT]).map fun s => (s, fr s)
theorem pre_take {α : Type} {l : List α} {i : Nat} {x : α} (h : l[i]? = some x) (r : List α) : l.take i ++ [x] <+: l ++ r := by
  obtain ⟨h1, rfl⟩ := List.getElem?_eq_some_iff.1 h
  rw [← List.take_succ_eq_append_getElem h1]
  exact (List.take_prefix _ _).trans (List.prefix_append _ _)
set_option maxHeartbeats 4000000 in
set_option maxRecDepth 100000 in
theorem cand_iter (g1 g2 bl : Nat) (m : Ment) (NS : List Nm) (TS : List ByteArray) (OT : ByteArray) (fr : ByteArray → ByteArray) (X : Nat → Prop) (w0 : World) (hF : CandFns g1 g2 m NS TS OT fr)
    (hbl : w0.heap[bl]? = some (.cells #[.map (some g1), .map (some g2)] 66)) (hM : MapsAt w0 g1 g2 m) (hT : Tab w0) (hX1 : ¬ X bl) (hX2 : ¬ X g1) (hX3 : ¬ X g2) (hX4 : ¬ X 1) (hnb : NS.length < 2000000) (htb : TS.length < 2000000) :
    IterS Tryz.prog 75 #[.pointer (some ⟨bl, 0, none⟩)] (fun x : Nm => #[.agg #[.string x.1, .string x.2]]) X (fun xs => xs = candsOf NS TS OT fr) (fun pre => pre <+: candsOf NS TS OT fr) (fun _ => True) w0 := by
  intro n l J Jx W hk hB h1 h0 hY hJ
  have H1 := Lib.hid h1; have HY := Lib.hid hY; have H0 := Lib.hid h0; have HF := Lib.hid hF
  clear hB h1 hY h0 hF
  have S0 := hp_kept hbl hk hX1
  have HT := Lib.hid (hT.keep (hk.block 1 hT.lt hX4))
  have HM : Hid (MapsAt W g1 g2 m) := Lib.hid ⟨hM.1.keep (hk.block g1 hM.1.lt hX2), hM.2.keep (hk.block g2 hM.2.lt hX3)⟩
  have hlt := hp_lt S0
  obtain ⟨c0, c1⟩ := blk2 S0
  have HS0 := Lib.hid S0
  have HJ := Lib.hid hJ
  clear S0 hk hJ
  refine callsIn_of_wp Tryz.func75 rfl trivial ?_ rfl
  simp only [Tryz.ntmps75, List.size_toArray, List.length_cons, List.length_nil, Nat.reduceAdd, Nat.reduceSub, Array.replicate_succ, Array.replicate_zero, List.push_toArray, List.append_toArray, List.nil_append, List.cons_append]
  gi_wp2_with (refine ⟨trivial, (fun h => by cases h), ?_⟩; gi_at_call 76; refine (callsIn_wide.2 (HF.out.known W HM.out)).mono ?_; rintro e w1 ⟨A, nn, c, v2, mid, rfl, hrow, hc, hov, hmid, hmid2, hb1⟩)
  have hs1 := hb1.size
  have HROW := Lib.hid hrow; have HOV := Lib.hid hov
  obtain ⟨T, hT⟩ : ∃ T : Nat → Prop, T = fun k => False ∨ (W.heap.size ≤ k ∧ k < w1.heap.size) := ⟨_, rfl⟩
  have hTk : ∀ k, T k ↔ W.heap.size ≤ k ∧ k < w1.heap.size := fun k => by rw [hT]; simp
  have HTK1 := Lib.hid hTk
  have HJ1 : Hid (J T [] w1) := Lib.hid (by rw [hT]; exact H0.out _ [] W w1 HJ.out (fun _ h => h.elim) (Nat.le_refl _) (Kept.of_below hb1))
  have HTB : Hid (∀ B : World, w1.heap.size ≤ B.heap.size → TB T W.heap.size B) := Lib.hid fun B hB k hk => by have := (HTK1.out k).1 hk; omega
  clear hTk hT
  clear hrow hov c0 c1
  gi_wp2
  have HNN := Lib.hid HROW.out.len
  have hnnb : nn < 2000000 := by have := HNN.out; omega
  gi_loopw [16] (fun s16 wr => ∃ i : Nat, i ≤ nn ∧ s16 = .int .i64 i ∧ J T (NS.take i) wr ∧ Kept (fun k => (k < W.heap.size ∧ X k) ∨ (W.heap.size ≤ k ∧ ¬ T k)) w1 wr)
    (fun s16 _ => nn - (intOf s16).toNat)
  case atStart => exact ⟨0, by omega, rfl, HJ1.out, Kept.refl _ _⟩
  case round =>
    obtain ⟨i, hi, rfl, hJr, hkr⟩ := hrel
    have HJR := Lib.hid hJr; have HKR := Lib.hid hkr
    have hszr := hkr.size
    have hrow : RowV wr (fun b => b < w1.heap.size) 2 nmV NS A nn := HROW.out.keep (fun b hb => ⟨by omega, hkr.block b (by omega) (by rintro (⟨h, _⟩ | ⟨_, h⟩); omega; exact h ((HTK1.out b).2 ⟨by omega, by omega⟩))⟩)
    clear hJr hkr
    by_cases hlt2 : i < nn
    · obtain ⟨b', off, a, b, HX, x0, x1, hix⟩ := hrow.name hlt2 c
      have hd : decide (i < nn) = true := by simp; omega
      obtain ⟨w5, hw5, S5, hsz5, hb5⟩ := alloc_facts wr (.cells #[.string a, .string b] 24)
      obtain ⟨r0, r1⟩ := blk2 S5
      have hJ5 := H1.out T (NS.take i) wr w5 HJR.out (HTB.out wr hszr) (Kept.of_below hb5)
      have hpre : NS.take i ++ [(a, b)] <+: candsOf NS TS OT fr := pre_take HX.out _
      obtain ⟨f2, t2, a2, b2, hy2, hR2⟩ := HY.out (n - 1) T (NS.take i) (a, b) w5 hJ5 hpre (HTB.out w5 (by omega)) (by omega)
      have HPRE := Lib.hid hpre
      have HTK : Hid (NS.take (i + 1) = NS.take i ++ [(a, b)]) := Lib.hid (by
        have h := HX.out
        obtain ⟨h1, h2⟩ := List.getElem?_eq_some_iff.1 h
        rw [List.take_succ_eq_append_getElem h1, h2])
      clear S5 hJ5 hpre
      gi_wp2
      refine ⟨(fun h => by cases h), hR2.mono ?_⟩
      rintro e w6 (⟨rfl, hJ6, hk6⟩ | ⟨rfl, hx6⟩)
      · have HJ6 := Lib.hid hJ6
        have hk16 : Kept (fun k => (k < W.heap.size ∧ X k) ∨ (W.heap.size ≤ k ∧ ¬ T k)) w1 w6 := (HKR.out.trans (Kept.of_below hb5)).trans hk6
        have HK16 := Lib.hid hk16
        clear hR2 hy2 hJ6 hk6 hk16
        gi_wp2
        go_roundw
        case rel => exact ⟨i + 1, by omega, by go_num, by rw [HTK.out]; exact HJ6.out, HK16.out⟩
        case measure => simp [intOf]; omega
      · have HX6 := Lib.hid hx6
        clear hR2 hy2 hx6
        gi_wp2
        refine bodyPost_ret (results_none rfl _ _ _) rfl ?_
        exact ⟨⟨_, rfl⟩, .inr ⟨_, HPRE.out, HX6.out⟩⟩
    · obtain rfl : i = nn := by omega
      have hd : decide (i < i) = false := by simp
      have HAL := Lib.hid (show NS.take i = NS by rw [HNN.out]; exact List.take_length)
      have hg1 := HM.out.1.lt
      have hg2 := HM.out.2.lt
      have HMR : Hid (MapsAt wr g1 g2 m) := Lib.hid ⟨HM.out.1.keep (by rw [HKR.out.block g1 (by omega) (by rintro (⟨_, h⟩ | ⟨h, _⟩); exact hX2 h; omega), hb1.block g1 hg1]), HM.out.2.keep (by rw [HKR.out.block g2 (by omega) (by rintro (⟨_, h⟩ | ⟨h, _⟩); exact hX3 h; omega), hb1.block g2 hg2])⟩
      have h1lt := HT.out.lt
      have HTR : Hid (Tab wr) := Lib.hid (HT.out.keep (by rw [HKR.out.block 1 (by omega) (by rintro (⟨_, h⟩ | ⟨h, _⟩); exact hX4 h; omega), hb1.block 1 h1lt]))
      have S0r := HS0.out
      rw [← hb1.block bl hlt, ← HKR.out.block bl (by omega) (by rintro (⟨_, h⟩ | ⟨h, _⟩); exact hX1 h; omega)] at S0r
      obtain ⟨c0, c1⟩ := blk2 S0r
      have HOR : Hid (OwnV wr mid 9 1 strV TS v2) := Lib.hid (HOV.out.from fun k h1 h2 => HKR.out.block k h2 (by rintro (⟨h, _⟩ | ⟨_, h⟩); omega; exact h ((HTK1.out k).2 ⟨by omega, by omega⟩)))
      clear S0r
      obtain ⟨LL, hLL⟩ : ∃ LL, LL = TS ++ [OT] := ⟨_, rfl⟩
      have hnl2 : LL.length < 3000000 := by rw [hLL, List.length_append, List.length_singleton]; omega
      have HLL := Lib.hid hLL
      clear hLL
      gi_wp2_with (first
        | (refine wpListIn_ownB rfl (.tmp 25) (.tmp 28) 87 rfl tyS str_one mid TS [OT] v2 rfl HO7.out _ 1 1 rfl HSRC.out rfl (by omega) (by omega) ?_
           rintro v9 w9 ho9 hg9 hob9
           rw [← HLL.out] at ho9
           have HO9 := Lib.hid ho9
           have HG9 := Lib.hid hg9
           obtain ⟨A9, c9, rfl, hrow9, hc9, hm9⟩ := ho9.rowAt str_len (by decide) (fun b => (W.heap.size ≤ b ∧ b < w1.heap.size) ∨ (wr.heap.size ≤ b ∧ b < w9.heap.size)) (by
             intro b hb
             have hlt9 := ho9.block_lt hb
             rcases hob9 with h | h
             · have := HOV.out.block_lt (h ▸ hb)
               left; omega
             · rw [hb] at h; cases h
               right; omega)
           have HROW9 := Lib.hid hrow9
           clear ho9 hg9 hrow9)
        | (refine ⟨trivial, (fun h => by cases h), ?_⟩; gi_at_call 77; refine (callsIn_wide.2 (HF.out.other wr HMR.out HTR.out)).mono ?_; rintro e w7 ⟨rfl, hb7⟩
           have hs7 := hb7.size
           obtain ⟨w8, hw8, S8, hsz8, hb8⟩ := alloc_facts w7 (.cells #[.string OT] 9)
           have HO7 : Hid (OwnV w8 mid 9 1 strV TS v2) := Lib.hid (HOR.out.from fun k h1 h2 => by rw [hb8.block k (by omega), hb7.block k h2])
           have HSRC : Hid (Src w8 1 (some ⟨w7.heap.size, 0, none⟩) 1 ([OT].flatMap strV)) := Lib.hid (Src.block S8 rfl)
           clear S8))
      have hs9 := HG9.out.size
      have hk9 : Kept T wr w9 := (Kept.of_below hb7).trans ((Kept.of_below hb8).trans ⟨HG9.out.os, HG9.out.tape, HG9.out.output, HG9.out.size, fun k hk hn => HG9.out.block k hk (fun e => hn ((HTK1.out k).2 (by have := HOV.out.block_lt e.symm; omega)))⟩)
      have HK9 := Lib.hid hk9
      obtain ⟨T2, hT2⟩ : ∃ T2 : Nat → Prop, T2 = fun k => T k ∨ (wr.heap.size ≤ k ∧ k < w9.heap.size) := ⟨_, rfl⟩
      have hJ9 : J T2 NS w9 := by rw [hT2]; have h := H0.out T _ wr w9 HJR.out (HTB.out wr hszr) (by omega) hk9; rwa [HAL.out] at h
      have HTK2 : Hid (∀ k, T2 k ↔ (W.heap.size ≤ k ∧ k < w1.heap.size) ∨ (wr.heap.size ≤ k ∧ k < w9.heap.size)) := Lib.hid fun k => by rw [hT2]; show T k ∨ _ ↔ _; rw [HTK1.out k]
      have HJ9 := Lib.hid hJ9
      have HTB2 : Hid (∀ B : World, w9.heap.size ≤ B.heap.size → TB T2 W.heap.size B) := Lib.hid fun B hB k hk => by have := (HTK2.out k).1 hk; omega
      clear hk9 hJ9 hT2
      gi_loopw [31] (fun s31 wq => ∃ k : Nat, k ≤ LL.length ∧ s31 = .int .i64 k ∧ J T2 (NS ++ (LL.take k).map fun s => (s, fr s)) wq ∧ Kept (fun k => (k < W.heap.size ∧ X k) ∨ (W.heap.size ≤ k ∧ ¬ T2 k)) w9 wq)
        (fun s31 _ => LL.length - (intOf s31).toNat)
      case atStart => exact ⟨0, by omega, rfl, by simpa using HJ9.out, Kept.refl _ _⟩
      case round =>
        obtain ⟨k, hk, rfl, hJq, hkq⟩ := hrel
        have HJQ := Lib.hid hJq; have HKQ := Lib.hid hkq
        have hszq := hkq.size
        clear hJq hkq
        have HRQ : Hid (RowV wr (fun b => b < w9.heap.size) 1 strV LL A9 LL.length) := Lib.hid (HROW9.out.keep fun b hb => ⟨by omega, HKQ.out.block b (by omega) (by rintro (⟨h, _⟩ | ⟨_, h⟩); omega; exact h ((HTK2.out b).2 hb))⟩)
        have HMQ : Hid (MapsAt wr g1 g2 m) := Lib.hid ⟨HMR.out.1.keep (by have := HMR.out.1.lt; rw [HKQ.out.block g1 (by omega) (by rintro (⟨_, h⟩ | ⟨h, _⟩); exact hX2 h; omega), HK9.out.block g1 this (fun h => by have := (HTK1.out _).1 h; omega)]), HMR.out.2.keep (by have := HMR.out.2.lt; rw [HKQ.out.block g2 (by omega) (by rintro (⟨_, h⟩ | ⟨h, _⟩); exact hX3 h; omega), HK9.out.block g2 this (fun h => by have := (HTK1.out _).1 h; omega)])⟩
        have HTQ : Hid (Tab wr) := Lib.hid (HTR.out.keep (by have := HTR.out.lt; rw [HKQ.out.block 1 (by omega) (by rintro (⟨_, h⟩ | ⟨h, _⟩); exact hX4 h; omega), HK9.out.block 1 this (fun h => by have := (HTK1.out _).1 h; omega)]))
        by_cases hlt3 : k < LL.length
        · obtain ⟨b', off, s, HX, x0, hix⟩ := HRQ.out.str hlt3 c9
          have hd : decide (k < LL.length) = true := by simp; omega
          have S0q := HS0.out
          rw [← hb1.block bl hlt] at S0q
          have S0q := hp_kept (hp_kept S0q HKR.out (by rintro (⟨_, h⟩ | ⟨h, _⟩); exact hX1 h; omega)) HK9.out (fun h => by have := (HTK1.out _).1 h; omega)
          have S0q := hp_kept S0q HKQ.out (by rintro (⟨_, h⟩ | ⟨h, _⟩); exact hX1 h; omega)
          obtain ⟨q0, q1⟩ := blk2 S0q
          have HPR : Hid ((NS ++ (LL.take k).map (fun s => (s, fr s))) ++ [(s, fr s)] = NS ++ (LL.take (k + 1)).map (fun s => (s, fr s))) := Lib.hid (by
            obtain ⟨h1, h2⟩ := List.getElem?_eq_some_iff.1 HX.out
            rw [List.take_succ_eq_append_getElem h1, h2, List.map_append, List.append_assoc]; rfl)
          have HPRE : Hid ((NS ++ (LL.take k).map (fun s => (s, fr s))) ++ [(s, fr s)] <+: candsOf NS TS OT fr) := Lib.hid (by
            rw [HPR.out]; unfold candsOf; rw [← HLL.out]
            exact (List.prefix_append_right_inj NS).2 ((List.take_prefix _ _).map _))
          clear S0q
          gi_wp2_with (refine ⟨trivial, (fun h => by cases h), ?_⟩; gi_at_call 78; refine (callsIn_wide.2 (HF.out.fresh s wr HMQ.out HTQ.out)).mono ?_; rintro e w10 ⟨rfl, hb10⟩
                       have hs10 := hb10.size
                       have hJ10 := H1.out T2 _ wr w10 HJQ.out (HTB2.out wr hszq) (Kept.of_below hb10)
                       obtain ⟨f2, t2, a2, b2, hy2, hR2⟩ := HY.out (n - 1) T2 _ (s, fr s) w10 hJ10 HPRE.out (HTB2.out w10 (by omega)) (by omega)
                       clear hJ10)
          refine ⟨(fun h => by cases h), hR2.mono ?_⟩
          rintro e w6 (⟨rfl, hJ6, hk6⟩ | ⟨rfl, hx6⟩)
          · rw [HPR.out] at hJ6
            have HJ6 := Lib.hid hJ6
            have hk16 : Kept (fun k => (k < W.heap.size ∧ X k) ∨ (W.heap.size ≤ k ∧ ¬ T2 k)) w9 w6 := (HKQ.out.trans (Kept.of_below hb10)).trans hk6
            have HK16 := Lib.hid hk16
            clear hR2 hy2 hJ6 hk6 hk16
            gi_wp2
            go_roundw
            case rel => exact ⟨k + 1, by omega, by go_num, HJ6.out, HK16.out⟩
            case measure => simp [intOf]; omega
          · have HX6 := Lib.hid hx6
            clear hR2 hy2 hx6
            gi_wp2
            refine bodyPost_ret (results_none rfl _ _ _) rfl ?_
            exact ⟨⟨_, rfl⟩, .inr ⟨_, HPRE.out, HX6.out⟩⟩
        · obtain rfl : k = LL.length := by omega
          have hd : decide (LL.length < LL.length) = false := by simp
          have HE : Hid (J T2 (candsOf NS TS OT fr) wr) := Lib.hid (by have h := HJQ.out; rw [List.take_length, HLL.out] at h; exact h)
          gi_wp2
          refine bodyPost_end (results_none rfl _ _ _) rfl ?_
          exact ⟨⟨_, rfl⟩, .inl ⟨_, _, rfl, HE.out⟩⟩
end Go.Proofs.YtfildbkkmnfekaaGreatDoor
