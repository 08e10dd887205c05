/- How the values lie in memory. -/
import Derived.Test.YtjlhdhbnaagajaaProg
import Derived.Below
import Derived.Deep.Draws
import Derived.Deep.AppendLies
import Derived.Maps.AppendAt
import Derived.OwnWalk
import Derived.Laws.BytesArg
import Derived.Laws.MakeOwn
import Derived.Laws.OwnMore
import Derived.Deep.OwnRows
import Derived.Tactics
import Derived.Lib.ConvBytes
import Derived.Laws.Slices
import Derived.WalkKit
import Derived.KernelRfl
import Derived.RowKit3
import Derived.Deep.LoopGhost
import Derived.Deep.QuietTactic
import Derived.BigQuiet
import Derived.WideLaws
import Derived.Deep.DeepCutAuto
import Derived.Deep.CutBlock
import Derived.Deep.RegionHeld3
import Derived.Laws.Rows
import Derived.Lib.AppendStr
import Derived.ArgAppend
import Derived.Laws.IdiomCopy
import Derived.OrdersHeld
import Derived.Laws.BitsLemmas
import Derived.RowKit
import Derived.Deep.Light
import Derived.Deep.DeepMust
import Derived.Test.YtjlhdhbnaagajaaWWords
import Derived.Test.YtjlhdhbnaagajaaWLast
import Derived.Test.YtjlhdhbnaagajaaWTab
import Derived.Test.YtjlhdhbnaagajaaWFour
import Derived.Test.YtjlhdhbnaagajaaWQPut
import Derived.Test.YtjlhdhbnaagajaaWApart
import Derived.Test.YtjlhdhbnaagajaaWArr
import Derived.Test.YtjlhdhbnaagajaaWZeros
import Derived.Test.YtjlhdhbnaagajaaWFoot
import Derived.Test.YtjlhdhbnaagajaaWKept
import Derived.Test.YtjlhdhbnaagajaaWShare
import Derived.Test.YtjlhdhbnaagajaaWN
import Derived.Test.YtjlhdhbnaagajaaWFootNe
import Derived.Test.YtjlhdhbnaagajaaWAt
import Derived.Test.YtjlhdhbnaagajaaWEqStruct
import Derived.Test.YtjlhdhbnaagajaaWRepsOne
import Derived.Test.YtjlhdhbnaagajaaWGuard
import Derived.Test.YtjlhdhbnaagajaaWMore
namespace Go.Proofs.Ytjlhdhbnaagajaa.J
open Go.RowKit Go.Proofs.YtjlhdhbnaagajaaW.PrintWords Go.Proofs.YtjlhdhbnaagajaaW.PrintLast Go.Proofs.YtjlhdhbnaagajaaW.PrintMore
set_option linter.unusedVariables false
set_option linter.unusedSimpArgs false
structure Leg where
  shard : Int
  account : Int
  asset : Int
  amount : Int
theorem Leg.eq_iff (x y : Leg) : x = y ↔ x.shard = y.shard ∧ x.account = y.account ∧ x.asset = y.asset ∧ x.amount = y.amount := by cases x; cases y; simp
def zLeg : Leg := ⟨(0 : Int), (0 : Int), (0 : Int), (0 : Int)⟩
structure Balance where
  account : Int
  asset : Int
  amount : Int
theorem Balance.eq_iff (x y : Balance) : x = y ↔ x.account = y.account ∧ x.asset = y.asset ∧ x.amount = y.amount := by cases x; cases y; simp
def zBalance : Balance := ⟨(0 : Int), (0 : Int), (0 : Int)⟩
structure Contract where
  id : Int
  legs : List Leg
theorem Contract.eq_iff (x y : Contract) : x = y ↔ x.id = y.id ∧ x.legs = y.legs := by cases x; cases y; simp
def zContract : Contract := ⟨(0 : Int), ([] : List Leg)⟩
structure Event where
  vote : Bool
  contract : Contract
  outcome : Int
theorem Event.eq_iff (x y : Event) : x = y ↔ x.vote = y.vote ∧ x.contract = y.contract ∧ x.outcome = y.outcome := by cases x; cases y; simp
def zEvent : Event := ⟨false, zContract, (0 : Int)⟩
structure Log where
  synced : List Int
  loose : List Int
theorem Log.eq_iff (x y : Log) : x = y ↔ x.synced = y.synced ∧ x.loose = y.loose := by cases x; cases y; simp
def zLog : Log := ⟨([] : List Int), ([] : List Int)⟩
structure Journal where
  index : Int
  start : List Balance
  log : Log
theorem Journal.eq_iff (x y : Journal) : x = y ↔ x.index = y.index ∧ x.start = y.start ∧ x.log = y.log := by cases x; cases y; simp
def zJournal : Journal := ⟨(0 : Int), ([] : List Balance), zLog⟩
structure EventsRes where
  code : Int
  events : List Event
theorem EventsRes.eq_iff (x y : EventsRes) : x = y ↔ x.code = y.code ∧ x.events = y.events := by cases x; cases y; simp
def zEventsRes : EventsRes := ⟨(0 : Int), ([] : List Event)⟩
def kLeg : Kd Leg := Kd.iso (Kd.pair (Kd.int .i64) (Kd.pair (Kd.int .i64) (Kd.pair (Kd.int .i64) (Kd.int .i64)))) (fun x : Leg => (x.shard, (x.account, (x.asset, x.amount))))
theorem kLeg_open {w : World} {x : Leg} {cs : List Value} (h : kLeg.K w x cs) : cs = [.int .i64 x.shard, .int .i64 x.account, .int .i64 x.asset, .int .i64 x.amount] := by
  obtain ⟨_, _, rfl, rfl, ⟨_, _, rfl, rfl, ⟨_, _, rfl, rfl, rfl⟩⟩⟩ := h
  exact rfl
theorem kLeg_openM {w : World} {base : Nat} {ok : Nat → Prop} {x : Leg} {cs : List Value} (h : kLeg.M w base ok x cs) : cs = [.int .i64 x.shard, .int .i64 x.account, .int .i64 x.asset, .int .i64 x.amount] := by
  obtain ⟨_, _, rfl, rfl, ⟨_, _, rfl, rfl, ⟨_, _, rfl, rfl, rfl⟩⟩⟩ := h
  exact rfl
theorem kLeg_mk {w : World} (x : Leg) : kLeg.K w x [.int .i64 x.shard, .int .i64 x.account, .int .i64 x.asset, .int .i64 x.amount] := ⟨[.int .i64 x.shard], [.int .i64 x.account, .int .i64 x.asset, .int .i64 x.amount], rfl, rfl, ⟨[.int .i64 x.account], [.int .i64 x.asset, .int .i64 x.amount], rfl, rfl, ⟨[.int .i64 x.asset], [.int .i64 x.amount], rfl, rfl, rfl⟩⟩⟩
theorem kLeg_mkM {w : World} {base : Nat} {ok : Nat → Prop} (x : Leg) : kLeg.M w base ok x [.int .i64 x.shard, .int .i64 x.account, .int .i64 x.asset, .int .i64 x.amount] := ⟨[.int .i64 x.shard], [.int .i64 x.account, .int .i64 x.asset, .int .i64 x.amount], rfl, rfl, ⟨[.int .i64 x.account], [.int .i64 x.asset, .int .i64 x.amount], rfl, rfl, ⟨[.int .i64 x.asset], [.int .i64 x.amount], rfl, rfl, rfl⟩⟩⟩
def kBalance : Kd Balance := Kd.iso (Kd.pair (Kd.int .i64) (Kd.pair (Kd.int .i64) (Kd.int .i64))) (fun x : Balance => (x.account, (x.asset, x.amount)))
theorem kBalance_open {w : World} {x : Balance} {cs : List Value} (h : kBalance.K w x cs) : cs = [.int .i64 x.account, .int .i64 x.asset, .int .i64 x.amount] := by
  obtain ⟨_, _, rfl, rfl, ⟨_, _, rfl, rfl, rfl⟩⟩ := h
  exact rfl
theorem kBalance_openM {w : World} {base : Nat} {ok : Nat → Prop} {x : Balance} {cs : List Value} (h : kBalance.M w base ok x cs) : cs = [.int .i64 x.account, .int .i64 x.asset, .int .i64 x.amount] := by
  obtain ⟨_, _, rfl, rfl, ⟨_, _, rfl, rfl, rfl⟩⟩ := h
  exact rfl
theorem kBalance_mk {w : World} (x : Balance) : kBalance.K w x [.int .i64 x.account, .int .i64 x.asset, .int .i64 x.amount] := ⟨[.int .i64 x.account], [.int .i64 x.asset, .int .i64 x.amount], rfl, rfl, ⟨[.int .i64 x.asset], [.int .i64 x.amount], rfl, rfl, rfl⟩⟩
theorem kBalance_mkM {w : World} {base : Nat} {ok : Nat → Prop} (x : Balance) : kBalance.M w base ok x [.int .i64 x.account, .int .i64 x.asset, .int .i64 x.amount] := ⟨[.int .i64 x.account], [.int .i64 x.asset, .int .i64 x.amount], rfl, rfl, ⟨[.int .i64 x.asset], [.int .i64 x.amount], rfl, rfl, rfl⟩⟩
def kContract : Kd Contract := Kd.iso (Kd.pair (Kd.int .i64) (Kd.slice 151 kLeg)) (fun x : Contract => (x.id, x.legs))
theorem kContract_open {w : World} {x : Contract} {cs : List Value} (h : kContract.K w x cs) : ∃ A1 c1, cs = [.int .i64 x.id, .slice A1 x.legs.length c1] ∧ x.legs.length ≤ c1 ∧ kLeg.C w A1 x.legs.length x.legs := by
  obtain ⟨_, _, rfl, rfl, ⟨A0_, c0_, rfl, l0_, h0_⟩⟩ := h
  exact ⟨_, _, rfl, l0_, h0_⟩
theorem kContract_openM {w : World} {base : Nat} {ok : Nat → Prop} {x : Contract} {cs : List Value} (h : kContract.M w base ok x cs) : ∃ v1, cs = [.int .i64 x.id, v1] ∧ kLeg.R 151 w base ok v1 x.legs := by
  obtain ⟨_, _, rfl, rfl, ⟨v0_, rfl, h0_⟩⟩ := h
  exact ⟨_, rfl, h0_⟩
theorem kContract_mk {w : World} (x : Contract) {A1 : Option Addr} {c1 : Nat} (l1 : x.legs.length ≤ c1) (g1 : kLeg.C w A1 x.legs.length x.legs) : kContract.K w x [.int .i64 x.id, .slice A1 x.legs.length c1] := ⟨[.int .i64 x.id], [.slice A1 x.legs.length c1], rfl, rfl, ⟨_, _, rfl, l1, g1⟩⟩
theorem kContract_mkM {w : World} {base : Nat} {ok : Nat → Prop} (x : Contract) {v1 : Value} (g1 : kLeg.R 151 w base ok v1 x.legs) : kContract.M w base ok x [.int .i64 x.id, v1] := ⟨[.int .i64 x.id], [v1], rfl, rfl, ⟨_, rfl, g1⟩⟩
def kEvent : Kd Event := Kd.iso (Kd.pair Kd.bool (Kd.pair kContract (Kd.int .i64))) (fun x : Event => (x.vote, (x.contract, x.outcome)))
theorem kEvent_open {w : World} {x : Event} {cs : List Value} (h : kEvent.K w x cs) : ∃ A2 c2, cs = [.bool x.vote, .int .i64 x.contract.id, .slice A2 x.contract.legs.length c2, .int .i64 x.outcome] ∧ x.contract.legs.length ≤ c2 ∧ kLeg.C w A2 x.contract.legs.length x.contract.legs := by
  obtain ⟨_, _, rfl, rfl, ⟨_, _, rfl, ⟨_, _, rfl, rfl, ⟨A0_, c0_, rfl, l0_, h0_⟩⟩, rfl⟩⟩ := h
  exact ⟨_, _, rfl, l0_, h0_⟩
theorem kEvent_openM {w : World} {base : Nat} {ok : Nat → Prop} {x : Event} {cs : List Value} (h : kEvent.M w base ok x cs) : ∃ v2, cs = [.bool x.vote, .int .i64 x.contract.id, v2, .int .i64 x.outcome] ∧ kLeg.R 151 w base ok v2 x.contract.legs := by
  obtain ⟨_, _, rfl, rfl, ⟨_, _, rfl, ⟨_, _, rfl, rfl, ⟨v0_, rfl, h0_⟩⟩, rfl⟩⟩ := h
  exact ⟨_, rfl, h0_⟩
theorem kEvent_mk {w : World} (x : Event) {A2 : Option Addr} {c2 : Nat} (l2 : x.contract.legs.length ≤ c2) (g2 : kLeg.C w A2 x.contract.legs.length x.contract.legs) : kEvent.K w x [.bool x.vote, .int .i64 x.contract.id, .slice A2 x.contract.legs.length c2, .int .i64 x.outcome] := ⟨[.bool x.vote], [.int .i64 x.contract.id, .slice A2 x.contract.legs.length c2, .int .i64 x.outcome], rfl, rfl, ⟨[.int .i64 x.contract.id, .slice A2 x.contract.legs.length c2], [.int .i64 x.outcome], rfl, ⟨[.int .i64 x.contract.id], [.slice A2 x.contract.legs.length c2], rfl, rfl, ⟨_, _, rfl, l2, g2⟩⟩, rfl⟩⟩
theorem kEvent_mkM {w : World} {base : Nat} {ok : Nat → Prop} (x : Event) {v2 : Value} (g2 : kLeg.R 151 w base ok v2 x.contract.legs) : kEvent.M w base ok x [.bool x.vote, .int .i64 x.contract.id, v2, .int .i64 x.outcome] := ⟨[.bool x.vote], [.int .i64 x.contract.id, v2, .int .i64 x.outcome], rfl, rfl, ⟨[.int .i64 x.contract.id, v2], [.int .i64 x.outcome], rfl, ⟨[.int .i64 x.contract.id], [v2], rfl, rfl, ⟨_, rfl, g2⟩⟩, rfl⟩⟩
def kLog : Kd Log := Kd.iso (Kd.pair (Kd.slice 5 (Kd.int .u8)) (Kd.slice 5 (Kd.int .u8))) (fun x : Log => (x.synced, x.loose))
theorem kLog_open {w : World} {x : Log} {cs : List Value} (h : kLog.K w x cs) : ∃ A0 c0 A1 c1, cs = [.slice A0 x.synced.length c0, .slice A1 x.loose.length c1] ∧ x.synced.length ≤ c0 ∧ (Kd.int .u8).C w A0 x.synced.length x.synced ∧ x.loose.length ≤ c1 ∧ (Kd.int .u8).C w A1 x.loose.length x.loose := by
  obtain ⟨_, _, rfl, ⟨A0_, c0_, rfl, l0_, h0_⟩, ⟨A1_, c1_, rfl, l1_, h1_⟩⟩ := h
  exact ⟨_, _, _, _, rfl, l0_, h0_, l1_, h1_⟩
theorem kLog_openM {w : World} {base : Nat} {ok : Nat → Prop} {x : Log} {cs : List Value} (h : kLog.M w base ok x cs) : ∃ v0 v1, cs = [v0, v1] ∧ (Kd.int .u8).R 5 w base ok v0 x.synced ∧ (Kd.int .u8).R 5 w base ok v1 x.loose := by
  obtain ⟨_, _, rfl, ⟨v0_, rfl, h0_⟩, ⟨v1_, rfl, h1_⟩⟩ := h
  exact ⟨_, _, rfl, h0_, h1_⟩
theorem kLog_mk {w : World} (x : Log) {A0 : Option Addr} {c0 : Nat} (l0 : x.synced.length ≤ c0) (g0 : (Kd.int .u8).C w A0 x.synced.length x.synced) {A1 : Option Addr} {c1 : Nat} (l1 : x.loose.length ≤ c1) (g1 : (Kd.int .u8).C w A1 x.loose.length x.loose) : kLog.K w x [.slice A0 x.synced.length c0, .slice A1 x.loose.length c1] := ⟨[.slice A0 x.synced.length c0], [.slice A1 x.loose.length c1], rfl, ⟨_, _, rfl, l0, g0⟩, ⟨_, _, rfl, l1, g1⟩⟩
theorem kLog_mkM {w : World} {base : Nat} {ok : Nat → Prop} (x : Log) {v0 : Value} (g0 : (Kd.int .u8).R 5 w base ok v0 x.synced) {v1 : Value} (g1 : (Kd.int .u8).R 5 w base ok v1 x.loose) : kLog.M w base ok x [v0, v1] := ⟨[v0], [v1], rfl, ⟨_, rfl, g0⟩, ⟨_, rfl, g1⟩⟩
def kJournal : Kd Journal := Kd.iso (Kd.pair (Kd.int .i64) (Kd.pair (Kd.slice 110 kBalance) kLog)) (fun x : Journal => (x.index, (x.start, x.log)))
theorem kJournal_open {w : World} {x : Journal} {cs : List Value} (h : kJournal.K w x cs) : ∃ A1 c1 A2 c2 A3 c3, cs = [.int .i64 x.index, .slice A1 x.start.length c1, .slice A2 x.log.synced.length c2, .slice A3 x.log.loose.length c3] ∧ x.start.length ≤ c1 ∧ kBalance.C w A1 x.start.length x.start ∧ x.log.synced.length ≤ c2 ∧ (Kd.int .u8).C w A2 x.log.synced.length x.log.synced ∧ x.log.loose.length ≤ c3 ∧ (Kd.int .u8).C w A3 x.log.loose.length x.log.loose := by
  obtain ⟨_, _, rfl, rfl, ⟨_, _, rfl, ⟨A0_, c0_, rfl, l0_, h0_⟩, ⟨_, _, rfl, ⟨A1_, c1_, rfl, l1_, h1_⟩, ⟨A2_, c2_, rfl, l2_, h2_⟩⟩⟩⟩ := h
  exact ⟨_, _, _, _, _, _, rfl, l0_, h0_, l1_, h1_, l2_, h2_⟩
theorem kJournal_openM {w : World} {base : Nat} {ok : Nat → Prop} {x : Journal} {cs : List Value} (h : kJournal.M w base ok x cs) : ∃ v1 v2 v3, cs = [.int .i64 x.index, v1, v2, v3] ∧ kBalance.R 110 w base ok v1 x.start ∧ (Kd.int .u8).R 5 w base ok v2 x.log.synced ∧ (Kd.int .u8).R 5 w base ok v3 x.log.loose := by
  obtain ⟨_, _, rfl, rfl, ⟨_, _, rfl, ⟨v0_, rfl, h0_⟩, ⟨_, _, rfl, ⟨v1_, rfl, h1_⟩, ⟨v2_, rfl, h2_⟩⟩⟩⟩ := h
  exact ⟨_, _, _, rfl, h0_, h1_, h2_⟩
theorem kJournal_mk {w : World} (x : Journal) {A1 : Option Addr} {c1 : Nat} (l1 : x.start.length ≤ c1) (g1 : kBalance.C w A1 x.start.length x.start) {A2 : Option Addr} {c2 : Nat} (l2 : x.log.synced.length ≤ c2) (g2 : (Kd.int .u8).C w A2 x.log.synced.length x.log.synced) {A3 : Option Addr} {c3 : Nat} (l3 : x.log.loose.length ≤ c3) (g3 : (Kd.int .u8).C w A3 x.log.loose.length x.log.loose) : kJournal.K w x [.int .i64 x.index, .slice A1 x.start.length c1, .slice A2 x.log.synced.length c2, .slice A3 x.log.loose.length c3] := ⟨[.int .i64 x.index], [.slice A1 x.start.length c1, .slice A2 x.log.synced.length c2, .slice A3 x.log.loose.length c3], rfl, rfl, ⟨[.slice A1 x.start.length c1], [.slice A2 x.log.synced.length c2, .slice A3 x.log.loose.length c3], rfl, ⟨_, _, rfl, l1, g1⟩, ⟨[.slice A2 x.log.synced.length c2], [.slice A3 x.log.loose.length c3], rfl, ⟨_, _, rfl, l2, g2⟩, ⟨_, _, rfl, l3, g3⟩⟩⟩⟩
theorem kJournal_mkM {w : World} {base : Nat} {ok : Nat → Prop} (x : Journal) {v1 : Value} (g1 : kBalance.R 110 w base ok v1 x.start) {v2 : Value} (g2 : (Kd.int .u8).R 5 w base ok v2 x.log.synced) {v3 : Value} (g3 : (Kd.int .u8).R 5 w base ok v3 x.log.loose) : kJournal.M w base ok x [.int .i64 x.index, v1, v2, v3] := ⟨[.int .i64 x.index], [v1, v2, v3], rfl, rfl, ⟨[v1], [v2, v3], rfl, ⟨_, rfl, g1⟩, ⟨[v2], [v3], rfl, ⟨_, rfl, g2⟩, ⟨_, rfl, g3⟩⟩⟩⟩
def kEventsRes : Kd EventsRes := Kd.iso (Kd.pair (Kd.int .i64) (Kd.slice 77 kEvent)) (fun x : EventsRes => (x.code, x.events))
theorem kEventsRes_open {w : World} {x : EventsRes} {cs : List Value} (h : kEventsRes.K w x cs) : ∃ A1 c1, cs = [.int .i64 x.code, .slice A1 x.events.length c1] ∧ x.events.length ≤ c1 ∧ kEvent.C w A1 x.events.length x.events := by
  obtain ⟨_, _, rfl, rfl, ⟨A0_, c0_, rfl, l0_, h0_⟩⟩ := h
  exact ⟨_, _, rfl, l0_, h0_⟩
theorem kEventsRes_openM {w : World} {base : Nat} {ok : Nat → Prop} {x : EventsRes} {cs : List Value} (h : kEventsRes.M w base ok x cs) : ∃ v1, cs = [.int .i64 x.code, v1] ∧ kEvent.R 77 w base ok v1 x.events := by
  obtain ⟨_, _, rfl, rfl, ⟨v0_, rfl, h0_⟩⟩ := h
  exact ⟨_, rfl, h0_⟩
theorem kEventsRes_mk {w : World} (x : EventsRes) {A1 : Option Addr} {c1 : Nat} (l1 : x.events.length ≤ c1) (g1 : kEvent.C w A1 x.events.length x.events) : kEventsRes.K w x [.int .i64 x.code, .slice A1 x.events.length c1] := ⟨[.int .i64 x.code], [.slice A1 x.events.length c1], rfl, rfl, ⟨_, _, rfl, l1, g1⟩⟩
theorem kEventsRes_mkM {w : World} {base : Nat} {ok : Nat → Prop} (x : EventsRes) {v1 : Value} (g1 : kEvent.R 77 w base ok v1 x.events) : kEventsRes.M w base ok x [.int .i64 x.code, v1] := ⟨[.int .i64 x.code], [v1], rfl, rfl, ⟨_, rfl, g1⟩⟩
def nthu8_ (xs : List Int) (k : Nat) : Int := xs.getD k 0
abbrev atu8 (w : World) (ad : Addr) (k : Nat) (x : Int) : Prop := w.cell? (ad.add k) = some (.int .u8 x)
theorem nthu8 {w : World} {A : Option Addr} {n : Nat} {xs : List Int} (h : Kd.C (Kd.int .u8) w A n xs) (k : Nat) (hk : k < n) : ∃ ad, A = some ad ∧ (∀ w2, Below w.heap.size w w2 → atu8 w2 ad k (nthu8_ xs k)) := by
  unfold nthu8_
  obtain ⟨ad, c, e, hl, hK, hc0⟩ := Kd.C_get h 0 (k : Int) (by omega) (by omega)
  rw [Int.toNat_natCast] at hK hc0
  have hc : ∀ j u, c[j]? = some u → ∀ w2, Below w.heap.size w w2 → w2.cell? (ad.add (k * 1 + j)) = some u := fun j u hu w2 hb => (hb.cell (World.block_lt_of_cell? w _ (hc0 j u hu))).trans (hc0 j u hu)
  obtain rfl := hK
  exact ⟨ad, e, fun w2 hb => by have := hc 0 _ rfl w2 hb; simpa using this⟩
def nthLeg_ (xs : List Leg) (k : Nat) : Leg := xs.getD k zLeg
abbrev atLeg (w : World) (ad : Addr) (k : Nat) (x : Leg) : Prop := w.cell? (ad.add (k * 4)) = some (.int .i64 x.shard) ∧ w.cell? ⟨(ad.add (k * 4)).block, (ad.add (k * 4)).off + 1, none⟩ = some (.int .i64 x.account) ∧ w.cell? ⟨(ad.add (k * 4)).block, (ad.add (k * 4)).off + 2, none⟩ = some (.int .i64 x.asset) ∧ w.cell? ⟨(ad.add (k * 4)).block, (ad.add (k * 4)).off + 3, none⟩ = some (.int .i64 x.amount)
theorem nthLeg {w : World} {A : Option Addr} {n : Nat} {xs : List Leg} (h : Kd.C kLeg w A n xs) (k : Nat) (hk : k < n) : ∃ ad, A = some ad ∧ (∀ w2, Below w.heap.size w w2 → atLeg w2 ad k (nthLeg_ xs k)) := by
  unfold nthLeg_
  obtain ⟨ad, c, e, hl, hK, hc0⟩ := Kd.C_get h zLeg (k : Int) (by omega) (by omega)
  rw [Int.toNat_natCast] at hK hc0
  have hc : ∀ j u, c[j]? = some u → ∀ w2, Below w.heap.size w w2 → w2.cell? (ad.add (k * 4 + j)) = some u := fun j u hu w2 hb => (hb.cell (World.block_lt_of_cell? w _ (hc0 j u hu))).trans (hc0 j u hu)
  obtain rfl := kLeg_open hK
  exact ⟨ad, e, fun w2 hb => ⟨hc 0 _ rfl w2 hb, by rw [← add_field _ _ 1 (by omega)]; exact hc 1 _ rfl w2 hb, by rw [← add_field _ _ 2 (by omega)]; exact hc 2 _ rfl w2 hb, by rw [← add_field _ _ 3 (by omega)]; exact hc 3 _ rfl w2 hb⟩⟩
def nthBalance_ (xs : List Balance) (k : Nat) : Balance := xs.getD k zBalance
abbrev atBalance (w : World) (ad : Addr) (k : Nat) (x : Balance) : Prop := w.cell? (ad.add (k * 3)) = some (.int .i64 x.account) ∧ w.cell? ⟨(ad.add (k * 3)).block, (ad.add (k * 3)).off + 1, none⟩ = some (.int .i64 x.asset) ∧ w.cell? ⟨(ad.add (k * 3)).block, (ad.add (k * 3)).off + 2, none⟩ = some (.int .i64 x.amount)
theorem nthBalance {w : World} {A : Option Addr} {n : Nat} {xs : List Balance} (h : Kd.C kBalance w A n xs) (k : Nat) (hk : k < n) : ∃ ad, A = some ad ∧ (∀ w2, Below w.heap.size w w2 → atBalance w2 ad k (nthBalance_ xs k)) := by
  unfold nthBalance_
  obtain ⟨ad, c, e, hl, hK, hc0⟩ := Kd.C_get h zBalance (k : Int) (by omega) (by omega)
  rw [Int.toNat_natCast] at hK hc0
  have hc : ∀ j u, c[j]? = some u → ∀ w2, Below w.heap.size w w2 → w2.cell? (ad.add (k * 3 + j)) = some u := fun j u hu w2 hb => (hb.cell (World.block_lt_of_cell? w _ (hc0 j u hu))).trans (hc0 j u hu)
  obtain rfl := kBalance_open hK
  exact ⟨ad, e, fun w2 hb => ⟨hc 0 _ rfl w2 hb, by rw [← add_field _ _ 1 (by omega)]; exact hc 1 _ rfl w2 hb, by rw [← add_field _ _ 2 (by omega)]; exact hc 2 _ rfl w2 hb⟩⟩
def nthEvent_ (xs : List Event) (k : Nat) : Event := xs.getD k zEvent
abbrev atEvent (w : World) (ad : Addr) (k : Nat) (x : Event) (A2 : Option Addr) (c2 : Nat) : Prop := w.cell? (ad.add (k * 4)) = some (.bool x.vote) ∧ w.cell? ⟨(ad.add (k * 4)).block, (ad.add (k * 4)).off + 1, none⟩ = some (.int .i64 x.contract.id) ∧ w.cell? ⟨(ad.add (k * 4)).block, (ad.add (k * 4)).off + 2, none⟩ = some (.slice A2 x.contract.legs.length c2) ∧ w.cell? ⟨(ad.add (k * 4)).block, (ad.add (k * 4)).off + 3, none⟩ = some (.int .i64 x.outcome)
theorem nthEvent {w : World} {A : Option Addr} {n : Nat} {xs : List Event} (h : Kd.C kEvent w A n xs) (k : Nat) (hk : k < n) : ∃ ad A2 c2, A = some ad ∧ (∀ w2, Below w.heap.size w w2 → atEvent w2 ad k (nthEvent_ xs k) A2 c2) ∧ (nthEvent_ xs k).contract.legs.length ≤ c2 ∧ (∀ w2, Below w.heap.size w w2 → kLeg.C w2 A2 (nthEvent_ xs k).contract.legs.length (nthEvent_ xs k).contract.legs) := by
  unfold nthEvent_
  obtain ⟨ad, c, e, hl, hK, hc0⟩ := Kd.C_get h zEvent (k : Int) (by omega) (by omega)
  rw [Int.toNat_natCast] at hK hc0
  have hc : ∀ j u, c[j]? = some u → ∀ w2, Below w.heap.size w w2 → w2.cell? (ad.add (k * 4 + j)) = some u := fun j u hu w2 hb => (hb.cell (World.block_lt_of_cell? w _ (hc0 j u hu))).trans (hc0 j u hu)
  obtain ⟨A2, c2, rfl, l2, g2⟩ := kEvent_open hK
  exact ⟨ad, A2, c2, e, fun w2 hb => ⟨hc 0 _ rfl w2 hb, by rw [← add_field _ _ 1 (by omega)]; exact hc 1 _ rfl w2 hb, by rw [← add_field _ _ 2 (by omega)]; exact hc 2 _ rfl w2 hb, by rw [← add_field _ _ 3 (by omega)]; exact hc 3 _ rfl w2 hb⟩, l2, fun w2 hb => Kd.C_below g2 hb⟩
def Contract.fits (x : Contract) : Prop := x.legs.length ≤ 1099511627776
def Event.fits (x : Event) : Prop := x.contract.fits
def Log.fits (x : Log) : Prop := x.synced.length ≤ 1099511627776 ∧ x.loose.length ≤ 1099511627776
def Journal.fits (x : Journal) : Prop := x.start.length ≤ 1099511627776 ∧ x.log.fits
def EventsRes.fits (x : EventsRes) : Prop := x.events.length ≤ 1099511627776 ∧ (∀ i, (nthEvent_ x.events i).fits)

end Go.Proofs.Ytjlhdhbnaagajaa.J
