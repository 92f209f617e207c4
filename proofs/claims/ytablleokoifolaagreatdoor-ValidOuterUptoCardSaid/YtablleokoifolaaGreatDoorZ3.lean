/- Part 3 of the proof that ValidOuterUptoCardSaid: for every input that fits the row the law answers true and its arguments read as before, over the world as the row lays it. -/
import Derived.Test.YtablleokoifolaaGreatDoorZ2
import Derived.Test.YtablleokoifolaaGreatDoorProg
import Derived.WalkKit
import Derived.LaidEql
import Derived.Stop.Asserts
import Derived.RowKitTokens
import Derived.Shelf.Strings.Search2
set_option linter.unusedVariables false
set_option linter.unusedSimpArgs false
namespace Go.Proofs.YtablleokoifolaaGreatDoor
open Go.RowKit Go.Extern.Stop Go.Stop Go.Extern
theorem zyF (t:Value) (w:World) :
  Calls Tryz.prog 32 #[.nilIface,t] w fun e w' => e=.returned (.bool false)∧w'=w:=by
 go_enter Tryz.func32,Tryz.ntmps32
 go_wp2
 go_ret
 exact ⟨rfl,rfl⟩
theorem zuj (t:Addr) (w:World):(ReflectliteValue.unpack (.iface 120 (.pointer (some t)))).run Tryz.prog w
  = .ok (.agg #[.pointer (some ⟨2,120,none⟩),.pointer (some ⟨w.heap.size,0,none⟩),.int .u64 150]) (w.alloc (.cells #[.pointer (some t)] 120)):=by kernel_rfl
theorem zws (a:Addr) (w:World):(ReflectliteValue.methodAny (ReflectliteValue.valueError "reflectlite.Value.Type" 0) (fun t _ _ _ => ReflectliteType.toType t) #[.agg #[.pointer (some ⟨2,120,none⟩),.pointer (some a),.int .u64 150]]).run Tryz.prog w
  = .ok (.iface 170 (.agg #[.pointer (some ⟨2,120,none⟩)])) w:=by kernel_rfl
theorem zul (h:Value) (w:World):(Go.method 351 170 (.agg #[h]) "Kind").run Tryz.prog w=.ok (135,h) w:=by kernel_rfl
theorem zwt (w:World):((ReflectliteType.abiMethod fun t => (fun a:Nat => Value.int IntKind.u8 (a:Int)) <$> Rtype.kind t) #[.pointer (some ⟨2,120,none⟩)]).run Tryz.prog w=.ok (.int .u8 22) w:=by kernel_rfl
theorem zwu (w:World):((ReflectliteType.abiMethod fun t => (fun a:Nat => Value.int IntKind.u8 (a:Int)) <$> Rtype.kind t) #[.pointer (some ⟨2,104,none⟩)]).run Tryz.prog w=.ok (.int .u8 2) w:=by kernel_rfl
theorem zyk (z:Sem Value) (f:TypeId→Addr→Nat→Nat→Sem Value) (v:Value) :
  ReflectliteValue.method z f #[v]=(do match ← ReflectliteValue.parts v with | none => z | some (t,a,fl) => f t a fl (fl % 32)):=rfl
theorem ztb (a:Addr) (w:World):(ReflectliteValue.parts (.agg #[.pointer (some ⟨2,120,none⟩),.pointer (some a),.int .u64 150])).run Tryz.prog w=.ok (some (120,a,150)) w:=by kernel_rfl
theorem zvV (a p:Addr) (W:World) (ha:W.cell? a=some (.pointer (some p))) :
  (ReflectliteValue.method (ReflectliteValue.valueError "reflectlite.Value.IsNil" 0) ReflectliteValue.isNil #[.agg #[.pointer (some ⟨2,120,none⟩),.pointer (some a),.int .u64 150]]).run Tryz.prog W=.ok (.bool false) W:=by
 rw [zyk]
 simp only [Sem.run_bind,ztb,Result.andThen]
 simp [ReflectliteValue.isNil,loadVar,isAgg,underlying,Tryz.underlying120,ha,Result.andThen]
theorem zum (h:Value) (w:World):(Go.method 351 170 (.agg #[h]) "Elem").run Tryz.prog w=.ok (145,.agg #[h]) w:=by kernel_rfl
theorem zml (h:Value) (w:World):(Go.method 351 170 (.agg #[h]) "Implements").run Tryz.prog w=.ok (146,.agg #[h]) w:=by kernel_rfl
theorem zlp (h:Value) (w:World):(Go.method 351 170 (.agg #[h]) "AssignableTo").run Tryz.prog w=.ok (143,.agg #[h]) w:=by kernel_rfl
theorem zwv (w:World):(ReflectliteType.method ReflectliteType.elem #[.agg #[.pointer (some ⟨2,120,none⟩)]]).run Tryz.prog w=.ok (.iface 170 (.agg #[.pointer (some ⟨2,104,none⟩)])) w:=by kernel_rfl
theorem zqU (w:World):(ReflectliteType.relation "Implements" ReflectliteType.implements_ #[.agg #[.pointer (some ⟨2,104,none⟩)],.iface 170 (.agg #[.pointer (some ⟨2,44,none⟩)])]).run Tryz.prog w=.ok (.bool true) w:=by kernel_rfl
theorem zuR (v:Value) (w:World):(ReflectliteType.typeOf #[.iface 104 v]).run Tryz.prog w=.ok (.iface 170 (.agg #[.pointer (some ⟨2,104,none⟩)])) w:=by kernel_rfl
theorem zqV (w:World):(ReflectliteType.relation "AssignableTo" ReflectliteType.assignableTo #[.agg #[.pointer (some ⟨2,104,none⟩)],.iface 170 (.agg #[.pointer (some ⟨2,104,none⟩)])]).run Tryz.prog w=.ok (.bool true) w:=by kernel_rfl
theorem zuk (n:Int) (w:World):(ReflectliteValue.unpack (.iface 104 (.int .i64 n))).run Tryz.prog w
  = .ok (.agg #[.pointer (some ⟨2,104,none⟩),.pointer (some ⟨w.heap.size,0,none⟩),.int .u64 130]) (w.alloc (.cells #[.int .i64 n] 104)):=by kernel_rfl
theorem zuT (w:World):(Rtype.elem? 120).run Tryz.prog w=.ok (some 104) w:=by kernel_rfl
theorem zxU (p:Addr) (w:World):(ReflectliteValue.mk 104 p ReflectliteValue.flagAddr).run Tryz.prog w=.ok (.agg #[.pointer (some ⟨2,104,none⟩),.pointer (some p),.int .u64 386]) w:=by kernel_rfl
theorem zvW (a p:Addr) (W:World) (ha:W.cell? a=some (.pointer (some p))) :
  (ReflectliteValue.method (ReflectliteValue.valueError "reflectlite.Value.Elem" 0) ReflectliteValue.elem #[.agg #[.pointer (some ⟨2,120,none⟩),.pointer (some a),.int .u64 150]]).run Tryz.prog W
   = .ok (.agg #[.pointer (some ⟨2,104,none⟩),.pointer (some p),.int .u64 386]) W:=by
 rw [zyk]
 simp only [Sem.run_bind,ztb,Result.andThen]
 simp [ReflectliteValue.elem,loadVar,isAgg,underlying,Tryz.underlying120,ha,Result.andThen,zuT,zxU]
theorem zyH (v x:Value):ReflectliteValue.set #[v,x]=(do
  let (some (dst,a,fl),some (src,b,_)):=(← ReflectliteValue.parts v,← ReflectliteValue.parts x)
   | unsupported (.noEntry "extern/(internal/reflectlite.Value).Set.zeroValue")
  if fl / ReflectliteValue.flagAddr % 2==0 then unsupported (.noEntry "extern/(internal/reflectlite.Value).Set.unaddressable")
  let val ← loadVar src b
  if ← Rtype.directlyAssignable dst src then storeVar dst a val
  else if ← Rtype.implements dst src then
   if (← Rtype.kind src)==20 then
    match val with
    | .nilIface => unsupported (.noEntry "extern/reflectlite: a nil value of one interface type handed on as a value of another")
    | _ => storeVar dst a val
   else storeVar dst a (.iface src val)
  else panicString ("reflectlite.Set: value of type " ++ (← Rtype.spelt src) ++ " is not assignable to type " ++ (← Rtype.spelt dst))
  pure (.tuple #[])):=rfl
theorem zuS (a:Addr) (w:World):(ReflectliteValue.parts (.agg #[.pointer (some ⟨2,104,none⟩),.pointer (some a),.int .u64 386])).run Tryz.prog w=.ok (some (104,a,386)) w:=by kernel_rfl
theorem zvU (a:Addr) (w:World):(ReflectliteValue.parts (.agg #[.pointer (some ⟨2,104,none⟩),.pointer (some a),.int .u64 130])).run Tryz.prog w=.ok (some (104,a,130)) w:=by kernel_rfl
theorem zuU (w:World):(Rtype.directlyAssignable 104 104).run Tryz.prog w=.ok true w:=by kernel_rfl
theorem zxj (ta b:Addr) (n:Int) (old:Value) (W:World) (hb:W.cell? b=some (.int .i64 n)) (ht:W.cell? ta=some old) (hf:W.frozen? ta=false) :
  (ReflectliteValue.set #[.agg #[.pointer (some ⟨2,104,none⟩),.pointer (some ta),.int .u64 386],.agg #[.pointer (some ⟨2,104,none⟩),.pointer (some b),.int .u64 130]]).run Tryz.prog W
   = .ok (.tuple #[]) (W.setCell ta (.int .i64 n)):=by
 rw [zyH]
 simp only [Sem.run_bind,zuS,zvU,Result.andThen]
 simp [ReflectliteValue.flagAddr,loadVar,isAgg,underlying,Tryz.underlying104,hb,Result.andThen,zuU,storeVar,Value.cells,storeCells,Addr.add]
 rw [run_store Tryz.prog W ta _ _ (by rfl)]
 simp [ht,hf]
set_option maxRecDepth 100000 in
set_option maxHeartbeats 4000000 in
theorem zyG (n:Int) (t:Addr) (old:Value) (w:World) (hg:w.cell? ⟨0,0,none⟩=some (.iface 170 (.agg #[.pointer (some ⟨2,44,none⟩)]))) (ht0:w.cell? t=some old) (hf0:w.frozen? t=false) :
  Calls Tryz.prog 32 #[.iface 104 (.int .i64 n),.iface 120 (.pointer (some t))] w fun ev w' => ev=.returned (.bool true)∧w'=((((w.alloc (.cells #[.pointer (some t)] 120)).alloc (.cells #[.pointer (some ⟨2,120,none⟩),.pointer (some ⟨w.heap.size,0,none⟩),.int .u64 150] 139)).alloc (.cells #[.pointer (some ⟨2,120,none⟩),.pointer (some ⟨w.heap.size,0,none⟩),.int .u64 150] 139)).alloc (.cells #[.int .i64 n] 104)).setCell t (.int .i64 n):=by
 have h6:=@run_callFunc_extern Tryz.prog 52 _ (fun args => ReflectliteValue.unpack (args.getD 0 (.tuple #[]))) Tryz.func52 (by kernel_rfl) (by kernel_rfl) (by kernel_rfl) (by kernel_rfl)
 have h7:=@run_callFunc_extern Tryz.prog 53 _ (ReflectliteValue.methodAny (ReflectliteValue.valueError "reflectlite.Value.Type" 0) (fun t _ _ _ => ReflectliteType.toType t)) Tryz.func53 (by kernel_rfl) (by kernel_rfl) (by kernel_rfl) (by kernel_rfl)
 have h8:=@run_callFunc_extern Tryz.prog 54 _ (ReflectliteValue.method (ReflectliteValue.valueError "reflectlite.Value.IsNil" 0) ReflectliteValue.isNil) Tryz.func54 (by kernel_rfl) (by kernel_rfl) (by kernel_rfl) (by kernel_rfl)
 have h27:=@run_callFunc_extern Tryz.prog 135 _ (ReflectliteType.abiMethod fun t => do pure (.int .u8 (← Rtype.kind t))) Tryz.func135 (by kernel_rfl) (by kernel_rfl) (by kernel_rfl) (by kernel_rfl)
 have h37:=@run_callFunc_extern Tryz.prog 145 _ (ReflectliteType.method ReflectliteType.elem) Tryz.func145 (by kernel_rfl) (by kernel_rfl) (by kernel_rfl) (by kernel_rfl)
 have h38:=@run_callFunc_extern Tryz.prog 146 _ (ReflectliteType.relation "Implements" ReflectliteType.implements_) Tryz.func146 (by kernel_rfl) (by kernel_rfl) (by kernel_rfl) (by kernel_rfl)
 have h10:=@run_callFunc_extern Tryz.prog 72 _ ReflectliteType.typeOf Tryz.func72 (by kernel_rfl) (by kernel_rfl) (by kernel_rfl) (by kernel_rfl)
 have h35:=@run_callFunc_extern Tryz.prog 143 _ (ReflectliteType.relation "AssignableTo" ReflectliteType.assignableTo) Tryz.func143 (by kernel_rfl) (by kernel_rfl) (by kernel_rfl) (by kernel_rfl)
 have h11:=@run_callFunc_extern Tryz.prog 73 _ (ReflectliteValue.method (ReflectliteValue.valueError "reflectlite.Value.Elem" 0) ReflectliteValue.elem) Tryz.func73 (by kernel_rfl) (by kernel_rfl) (by kernel_rfl) (by kernel_rfl)
 have h12:=@run_callFunc_extern Tryz.prog 74 _ ReflectliteValue.set Tryz.func74 (by kernel_rfl) (by kernel_rfl) (by kernel_rfl) (by kernel_rfl)
 have tO:=zuR
 have mA:=zlp
 have a25:=zqV
 have v25:=zuk
 have f6:=zuj
 have f7:=zws
 have mK:=zul
 have mE:=zum
 have mI:=zml
 have k27:=zwt
 have k25:=zwu
 have e27:=zwv
 have i25:=zqU
 have n8:=zvV ⟨w.heap.size,0,none⟩ t ((w.alloc (.cells #[.pointer (some t)] 120)).alloc (.cells #[.pointer (some ⟨2,120,none⟩),.pointer (some ⟨w.heap.size,0,none⟩),.int .u64 150] 139)) (by simp)
 have hlt:0<w.heap.size:=by
  rcases Nat.eq_zero_or_pos w.heap.size with h0 | h
  ·simp [World.cell?,h0] at hg
  ·exact h
 have hg2:((w.alloc (.cells #[.pointer (some t)] 120)).alloc (.cells #[.pointer (some ⟨2,120,none⟩),.pointer (some ⟨w.heap.size,0,none⟩),.int .u64 150] 139)).cell? ⟨0,0,none⟩=some (.iface 170 (.agg #[.pointer (some ⟨2,44,none⟩)])):=by
  rw [World.cell?_alloc_lt _ _ ⟨0,0,none⟩ (by simp),World.cell?_alloc_lt _ _ ⟨0,0,none⟩ hlt]; exact hg
 have htl:t.block<w.heap.size:=by
  rcases Nat.lt_or_ge t.block w.heap.size with h | h
  ·exact h
  ·simp [World.cell?,Array.getElem?_eq_none h] at ht0
 have el:=zvW ⟨w.heap.size,0,none⟩ t (((w.alloc (.cells #[.pointer (some t)] 120)).alloc (.cells #[.pointer (some ⟨2,120,none⟩),.pointer (some ⟨w.heap.size,0,none⟩),.int .u64 150] 139)).alloc (.cells #[.pointer (some ⟨2,120,none⟩),.pointer (some ⟨w.heap.size,0,none⟩),.int .u64 150] 139)) (by rw [World.cell?_alloc_lt _ _ ⟨w.heap.size,0,none⟩ (by simp; omega)]; simp)
 have st:=zxj t ⟨w.heap.size+1+1+1,0,none⟩ n old ((((w.alloc (.cells #[.pointer (some t)] 120)).alloc (.cells #[.pointer (some ⟨2,120,none⟩),.pointer (some ⟨w.heap.size,0,none⟩),.int .u64 150] 139)).alloc (.cells #[.pointer (some ⟨2,120,none⟩),.pointer (some ⟨w.heap.size,0,none⟩),.int .u64 150] 139)).alloc (.cells #[.int .i64 n] 104))
  (by rw [World.cell?_alloc_at _ _ _ _ (by simp)]; rfl)
  (by rw [World.cell?_alloc_lt _ _ t (by simp; omega),World.cell?_alloc_lt _ _ t (by simp; omega),World.cell?_alloc_lt _ _ t (by simp; omega),World.cell?_alloc_lt _ _ t htl]; exact ht0)
  (by rw [World.frozen?_alloc_old _ _ t (by simp; omega),World.frozen?_alloc_old _ _ t (by simp; omega),World.frozen?_alloc_old _ _ t (by simp; omega),World.frozen?_alloc_old _ _ t (Nat.ne_of_lt htl)]; exact hf0)
 go_enter Tryz.func32,Tryz.ntmps32
 go_wp2
 refine wp_loop_rounds 1 ?_
 rw [rounds_succ]
 go_wp2
 go_ret
 exact ⟨rfl,rfl⟩
set_option maxHeartbeats 4000000 in
theorem zyc (w:World):Calls Tryz.prog 17 #[.nilIface] w fun e w' => e=.returned (.int .i64 0)∧w'=w.alloc (.cells #[.int .i64 0] 104):=by
 go_enter Tryz.func17,Tryz.ntmps17
 go_wp2_with (first | (go_at_call 32; refine (zyF _ _).mono ?_; rintro e w' ⟨rfl,rfl⟩))
 go_ret
 exact ⟨rfl,rfl⟩
set_option maxRecDepth 100000 in
set_option maxHeartbeats 4000000 in
theorem zyd (n:Int) (w:World) (hg:w.cell? ⟨0,0,none⟩=some (.iface 170 (.agg #[.pointer (some ⟨2,44,none⟩)]))) :
  Calls Tryz.prog 17 #[.iface 104 (.int .i64 n)] w fun e w' => e=.returned (.int .i64 n)∧∃ o0 o1 o2 o3 o4,w'=((((w.alloc o0).alloc o1).alloc o2).alloc o3).alloc o4:=by
 have hlt:0<w.heap.size:=by
  rcases Nat.eq_zero_or_pos w.heap.size with h0 | h
  ·simp [World.cell?,h0] at hg
  ·exact h
 have hgA:(w.alloc (.cells #[.int .i64 0] 104)).cell? ⟨0,0,none⟩=some (.iface 170 (.agg #[.pointer (some ⟨2,44,none⟩)])):=by
  rw [World.cell?_alloc_lt _ _ ⟨0,0,none⟩ hlt]; exact hg
 have htA:(w.alloc (.cells #[.int .i64 0] 104)).cell? ⟨w.heap.size,0,none⟩=some (.int .i64 0):=by simp
 have hfA:(w.alloc (.cells #[.int .i64 0] 104)).frozen? ⟨w.heap.size,0,none⟩=false:=by simp
 go_enter Tryz.func17,Tryz.ntmps17
 go_wp2_with (first | (go_at_call 32; refine (zyG n _ (.int .i64 0) _ hgA htA hfA).mono ?_; rintro e w' ⟨rfl,rfl⟩))
 go_ret
 exact ⟨rfl,_,_,_,_,_,rfl⟩
theorem fnOk_num:FnOk E 9:=⟨Tryz.f17,Tryz.func17,by kernel_rfl,by kernel_rfl⟩
theorem zfk {w w1:World} {F:Nat→Prop} {r:AV} {v:Value} (p:PureEnd E w F r v w1 F) (hr:∀ H,RVF E H F r v) (o:Obj):PureEnd E w F r v (w1.alloc o) F where
 rv:=hr _
 fmono:=p.fmono
 fnew:=p.fnew
 fsz b hb:=by have:=p.fsz b hb; rw [World.size_alloc]; omega
 size:=by have:=p.size; rw [World.size_alloc]; omega
 same b hb:=by
  have:=p.size
  have e:(w1.alloc o).heap[b]? = w1.heap[b]?:=getElem?_push_lt' (by omega)
  rw [e]; exact p.same b hb
 wx:=p.wx.trans ⟨rfl,rfl,rfl⟩
theorem zqX {w:World} {F:Nat→Prop} {r:AV} {v:Value} (hF:∀ b,F b→b<w.heap.size) (hr:RVF E w.heap F r v):PureEnd E w F r v w F:=
 ⟨hr,fun _ h => h,fun _ h => .inl h,hF,Nat.le_refl _,fun _ _ => rfl,WX.refl w⟩
theorem cellH_cell {w:World} {b:Nat} {v:Value} (h:cellH w.heap b=some v):w.cell? ⟨b,0,none⟩=some v:=by
 unfold cellH at h
 unfold World.cell?
 cases hb:w.heap[b]? with
 | none => simp [hb] at h
 | some o => cases o <;> simp_all
theorem zuJ:ACallP E 9 [.nili] (.int .i64 0):=by
 refine ⟨fnOk_num,fun w F vs hgb hgo hF hl hrv => ?_⟩
 have h0:=hrv 0 (by simp)
 obtain ⟨v,rfl⟩:∃ v,vs = #[v]:=by
  match vs,hl with
  | ⟨[v]⟩,_ => exact ⟨v,rfl⟩
 simp only [List.getD_cons_zero] at h0
 have hv:v=.nilIface:=by
  have:(#[v]:Array Value).getD 0 Go.undef=v:=rfl
  rw [this] at h0
  cases h0; rfl
 subst hv
 refine (zyc w).mono ?_
 rintro e w' ⟨rfl,rfl⟩
 exact ⟨_,F,rfl,zfk (zqX hF (.int _ _)) (fun _ => .int _ _) _⟩
theorem zyC (n:Int):ACallP E 9 [.iface 45 (.int .i64 n)] (.int .i64 n):=by
 refine ⟨fnOk_num,fun w F vs hgb hgo hF hl hrv => ?_⟩
 have h0:=hrv 0 (by simp)
 obtain ⟨v,rfl⟩:∃ v,vs = #[v]:=by
  match vs,hl with
  | ⟨[v]⟩,_ => exact ⟨v,rfl⟩
 have hv:v=.iface 104 (.int .i64 n):=by
  have:(#[v]:Array Value).getD 0 Go.undef=v:=rfl
  rw [this] at h0
  simp only [List.getD_cons_zero] at h0
  cases h0 with
  | iface _ _ u hu => cases hu; rfl
 subst hv
 refine (zyd n w (cellH_cell hgo.1)).mono ?_
 rintro e w' ⟨rfl,o0,o1,o2,o3,o4,rfl⟩
 exact ⟨_,F,rfl,zfk (zfk (zfk (zfk (zfk (zqX hF (.int _ _)) (fun _ => .int _ _) _) (fun _ => .int _ _) _) (fun _ => .int _ _) _) (fun _ => .int _ _) _) (fun _ => .int _ _) _⟩
end Go.Proofs.YtablleokoifolaaGreatDoor
set_option linter.unusedVariables false
namespace Go.Proofs.YtablleokoifolaaGreatDoor
open Go.Shelf
def renS:Ren:=
  { f:=fun x => match x with
      | 219 => 114 | 217 => 115 | 225 => 116 | 224 => 117 | 267 => 118 | 266 => 119 | 314 => 120
      | n => n
    t:=fun x => match x with
      | 9 => 9 | 3 => 3 | 4 => 4 | 5 => 5 | 46 => 71 | 146 => 220 | 51 => 59
      | n => n
    g:=fun x => match x with
      | 1 => 1
      | n => n }
theorem lays219:Lays.n219 Tryz.prog renS:=
  { mixed:=Eq.refl true,
    f217:=Tryz.func115.trans (congrArg some (Eq.refl (Body.n217 renS))),f219:=Tryz.func114.trans (congrArg some (Eq.refl (Body.n219 renS))),f224:=Tryz.func117.trans (congrArg some (Eq.refl (Body.n224 renS))),
    f225:=Tryz.func116.trans (congrArg some (Eq.refl (Body.n225 renS))),f266:=Tryz.func119.trans (congrArg some (Eq.refl (Body.n266 renS))),f267:=Tryz.func118.trans (congrArg some (Eq.refl (Body.n267 renS))),
    f314:=Tryz.func120.trans (congrArg some (Eq.refl (Body.n314 renS))),
    t3:=Tryz.underlying3,a3:=Tryz.isAgg3,z3:=Tryz.sizeOf3,v3:=Tryz.zeroValue3,t4:=Tryz.underlying4,a4:=Tryz.isAgg4,z4:=Tryz.sizeOf4,v4:=Tryz.zeroValue4,
    t5:=Tryz.underlying5,a5:=Tryz.isAgg5,z5:=Tryz.sizeOf5,v5:=Tryz.zeroValue5,t9:=Tryz.underlying9,a9:=Tryz.isAgg9,z9:=Tryz.sizeOf9,v9:=Tryz.zeroValue9,
    t46:=Tryz.underlying71,a46:=Tryz.isAgg71,z46:=Tryz.sizeOf71,v46:=Tryz.zeroValue71,t51:=Tryz.underlying59,a51:=Tryz.isAgg59,z51:=Tryz.sizeOf59,v51:=Tryz.zeroValue59,
    t146:=Tryz.underlying220,a146:=Tryz.isAgg220,z146:=Tryz.sizeOf220,v146:=Tryz.zeroValue220,g1:=by kernel_rfl }
open Go.RowKit Go.Lib in
theorem zvg (s sub:ByteArray) (m:Int) (w:World) (hs:s.size<4294967281) (hm:w.cell? ⟨1,0,none⟩=some (.int .i64 m)) :
  Calls Tryz.prog 114 #[.string s,.string sub] w fun e w' => e=.returned (.int .i64 (Lib.index s.data.toList sub.data.toList))∧w'=w:=Any.stringslite_Index lays219 s sub m w hs hm
theorem fnOk_index:FnOk E 106:=⟨Tryz.f114,Tryz.func114,by kernel_rfl,by kernel_rfl⟩
theorem zyh (s sub:ByteArray) (hs:s.size<4294967281):ACallP E 106 [.str s,.str sub] (.int .i64 (Lib.index s.data.toList sub.data.toList)):=by
 refine ⟨fnOk_index,fun w F vs hgb hgo hF hl hrv => ?_⟩
 have h0:=hrv 0 (by simp)
 have h1:=hrv 1 (by simp)
 obtain ⟨v,u,rfl⟩:∃ v u,vs = #[v,u]:=by
  match vs,hl with
  | ⟨[v,u]⟩,_ => exact ⟨v,u,rfl⟩
 have e0:(#[v,u]:Array Value).getD 0 Go.undef=v:=rfl
 have e1:(#[v,u]:Array Value).getD 1 Go.undef=u:=rfl
 rw [e0] at h0
 rw [e1] at h1
 simp only [List.getD_cons_zero,List.getD_cons_succ] at h0 h1
 cases h0
 cases h1
 obtain ⟨m,hm⟩:=hgo.2
 refine (zvg s sub m w hs (cellH_cell hm)).mono ?_
 rintro e w' ⟨rfl,rfl⟩
 exact ⟨_,F,rfl,zqX hF (.int _ _)⟩
end Go.Proofs.YtablleokoifolaaGreatDoor
set_option linter.unusedVariables false
set_option maxRecDepth 100000
namespace Go.Proofs.YtablleokoifolaaGreatDoor
open Go
def TL:List (Nat×AFun×Nat):=[
 (2,zor,0),
 (4,ziY,1),
 (6,zkw,2),
 (7,zmc,2),
 (9,zsn,1),
 (20,zgc,1),
 (29,zeX,2),
 (21,zaF,2),
 (22,ziC,1),
 (24,ziX,2),
 (30,zaJ,2),
 (31,ziD,1),
 (32,zhu,1),
 (33,ziB,2),
 (35,zbh,2),
 (34,zfs,2),
 (36,zee,1),
 (38,zby,1),
 (39,zdE,2),
 (40,zdD,2),
 (49,zfu,1),
 (50,zgY,1),
 (51,zaZ,2),
 (53,zaS,2),
 (52,zft,2),
 (54,zbG,2),
 (68,zbI,2),
 (55,zcF,2),
 (56,zcZ,2),
 (61,zom,1),
 (62,zop,1),
 (63,zmL,1),
 (66,zbd,2),
 (67,zaV,2),
 (69,zdh,1),
 (70,zdj,4),
 (71,zel,2),
 (72,zdi,2),
 (73,zde,2),
 (75,zdF,2),
 (74,zcx,2),
 (76,zek,2),
 (77,zdg,2),
 (78,zda,2),
 (79,zdf,2),
 (80,zon,1),
 (81,zoo,1),
 (82,zrp,2),
 (83,zoq,1),
 (85,ztm,1),
 (86,zsg,1),
 (87,ztn,1),
 (88,zoe,1),
 (89,zuQ,1),
 (90,zmd,1),
 (91,zgj,2),
 (92,zfh,2),
 (93,zgh,2),
 (96,zsd,0),
 (97,zgi,2),
 (98,zmK,2),
 (99,zgS,2),
 (100,zeO,2),
 (101,zev,2),
 (102,zeM,2),
 (103,zeN,2),
 (104,zit,2),
 (105,zkx,2)]
theorem TL_ok:∀ e∈TL,Fn E e.1 e.2.1 e.2.2:=by
 unfold TL
 simp only [List.forall_mem_cons]
 exact ⟨ztE,zmb,zmt,zrc,zuG,zje,zgL,zaR,zlY,zma,zaT,zlZ,zkp,zlX,zbV,zjb,zhv,zbZ,zfa,zeZ,zjd,zko,zbJ,zbu,zjc,zci,zcn,zeu,zeI,ztz,ztC,zsx,zbP,zbH,zeS,zeU,zff,zeT,zeP,zfb,zdP,zfe,zeR,zeJ,zeQ,ztA,ztB,zuC,ztD,zvk,zuE,zvl,zre,zwk,zrd,zlt,zkq,zlr,zuD,zls,zsw,zmh,zhy,zgV,zhw,zhx,zmu,zot,fun _ h => by cases h⟩
def Tfn (f:Nat):Option (AFun×Nat):=(TL.find? fun e => e.1==f).map (·.2)
def torc:CP
 | 9,[.nili] => some (.int .i64 0)
 | 9,[.iface 45 (.int .i64 n)] => some (.int .i64 n)
 | 106,[.str a,.str b] => if a.size<4294967281 then some (.int .i64 (Lib.index a.data.toList b.data.toList)) else none
 | _,_ => none
def TT:Tab:=⟨Tfn,torc,fun _ _ _ _ _ _ => none⟩
theorem TT_ok:TabOk E TT:=by
 refine ⟨fun f A np h => ?_,fun f ar r h => ?_,fun _ _ _ _ f ar h n r h' n' hx => by cases hx⟩
 ·simp only [TT,Tfn] at h
  obtain ⟨e,he,h⟩:=Option.map_eq_some_iff.1 h
  have h1:=List.find?_some he
  have h2:=List.mem_of_find?_eq_some he
  have:=TL_ok e h2
  simp only [beq_iff_eq] at h1
  rw [h1,h] at this
  exact this
 ·simp only [TT] at h
  unfold torc at h
  split at h
  ·obtain rfl:=Option.some.inj h; exact zuJ
  ·obtain rfl:=Option.some.inj h; exact zyC _
  ·split at h
   ·rename_i hs; obtain rfl:=Option.some.inj h; exact zyh _ _ hs
   ·cases h
  ·cases h
theorem zwF {f:Nat} {ar:List AV} {r:AV} (d:Nat) (h:(xF TT 3000 d).1 f ar=some r):ACallP E f ar r:=(xF_sound TT_ok 3000 d).1 f ar r h
theorem zyB:ACallP E 2 [] (.bool true):=zwF 60 (by kernel_rfl)
end Go.Proofs.YtablleokoifolaaGreatDoor
set_option linter.unusedVariables false
set_option linter.unusedSimpArgs false
namespace Go.Proofs.YtablleokoifolaaGreatDoor
open Go
variable {E:Env} {nt:Nat}
theorem ex3 {P:IntKind→Int→Prop} {a:IntKind} {h:Int}:(∃ av h',(a=av∧h=h')∧P av h')↔P a h:=⟨by rintro ⟨_,_,⟨rfl,rfl⟩,h⟩; exact h,fun h => ⟨_,_,⟨rfl,rfl⟩,h⟩⟩
theorem ex4 {P:AV→Hp→Prop} {a:AV} {h:Hp} {c:Prop}:(∃ av h',(c∧a=av∧h=h')∧P av h')↔c∧P a h:=⟨by rintro ⟨_,_,⟨hc,rfl,rfl⟩,h⟩; exact ⟨hc,h⟩,fun ⟨hc,h⟩ => ⟨_,_,⟨hc,rfl,rfl⟩,h⟩⟩
theorem ex5 {P:AV→Hp→Prop} {m:Option AV} {h:Hp} {c:Prop}:(∃ av h',(c∧∃ a,m=some a∧a=av∧h=h')∧P av h')↔c∧∃ a,m=some a∧P a h:=
 ⟨by rintro ⟨_,_,⟨hc,a,hm,rfl,rfl⟩,h⟩; exact ⟨hc,a,hm,h⟩,fun ⟨hc,a,hm,h⟩ => ⟨_,_,⟨hc,a,hm,rfl,rfl⟩,h⟩⟩
theorem ex2 {P:AV→Hp→Prop} {a:AV} {h:Hp}:(∃ av h',(a=av∧h=h')∧P av h')↔P a h:=⟨by rintro ⟨_,_,⟨rfl,rfl⟩,h⟩; exact h,fun h => ⟨_,_,⟨rfl,rfl⟩,h⟩⟩
theorem AW.rs (W:Nat→Nat→Nat→Prop) {res:Nat} {ops:List AOper} {dr:Bool} {live:List Nat} {b:ACode} {Q:AExit→St→Prop} {s:St}
  (h:∀ K:St→Prop,(∀ s',AW E nt b Q s'→K s')→AWL E dr s.n W ops (fun s' => K ⟨prune live s'.t,s'.h,s'.n⟩) ⟨s.t,s.h,s.n+res⟩):AW E nt (.seq (.reg res ops dr live) b) Q s:=
 AW.seq (AW.reg W (h (fun s' => AW E nt b Q s') (fun _ h => h)))
theorem AW.r1 (W:Nat→Nat→Nat→Prop) {res:Nat} {ops:List AOper} {dr:Bool} {live:List Nat} {Q:AExit→St→Prop} {s:St}
  (h:∀ K:St→Prop,(∀ s',Q .normal s'→K s')→AWL E dr s.n W ops (fun s' => K ⟨prune live s'.t,s'.h,s'.n⟩) ⟨s.t,s.h,s.n+res⟩):AW E nt (.reg res ops dr live) Q s:=
 AW.reg W (h (fun s' => Q .normal s') (fun _ h => h))
section
variable {W:Nat→Nat→Nat→Prop} {dr:Bool} {base:Nat} {r:List AOper} {K:St→Prop} {t:Nat→AV} {h:Hp} {n:Nat} {d:Option Nat}
theorem AWL_nil:AWL E dr base W [] K ⟨t,h,n⟩↔K ⟨t,h,n⟩:=Iff.rfl
theorem AWL_guard {op:AOp} {j g:Nat} {b:Bool}:AWL E dr base W (⟨d,op,some (j,g,b)⟩ :: r) K ⟨t,h,n⟩ ↔
    (match t g with
     | .bool c => if c=b then AWL E dr base W (⟨d,op,none⟩ :: r) K ⟨t,h,n⟩ else AWL E dr base W r K ⟨putT d t .hole,h,n⟩
     | .hole => AWL E dr base W r K ⟨putT d t .hole,h,n⟩
     | _ => False):=by
  simp only [AWL,AW1,wantA]
  cases t g <;> simp only [] <;> first | rfl | skip
  rename_i c
  cases c <;> cases b <;> simp [ex2,ex3,ex4,ex5]
theorem AWL_mov {x:AX}:AWL E dr base W (⟨d,.mov x,none⟩ :: r) K ⟨t,h,n⟩↔AWL E dr base W r K ⟨putT d t (evX t x),h,n⟩:=by
 simp [AWL,AW1,wantA,aval,rdOk,ex2]
theorem AWL_asg {x:AX}:AWL E dr base W (⟨d,.asg x,none⟩ :: r) K ⟨t,h,n⟩↔AWL E dr base W r K ⟨putT d t (evX t x),h,n⟩:=by
 simp [AWL,AW1,wantA,aval,rdOk,ex2]
theorem AWL_pick {c a b:AX}:AWL E dr base W (⟨d,.pick c a b,none⟩ :: r) K ⟨t,h,n⟩↔∃ q,evX t c=.bool q∧AWL E dr base W r K ⟨putT d t (apick q (evX t a) (evX t b)),h,n⟩:=by
 simp only [AWL,AW1,wantA,aval,rdOk]
 cases evX t c <;> simp [ex2,ex3,ex4,ex5]
theorem AWL_alloc {k c:Nat} {zs:List AV}:AWL E dr base W (⟨d,.alloc k c zs,none⟩ :: r) K ⟨t,h,n⟩ ↔
  AWL E dr base W r K ⟨putT d t (.ptr (base+k) 0 0),upd h (base+k) (some (.row false zs.length [zs])),n⟩:=by
 simp [AWL,AW1,wantA,aval,rdOk,ex2]
theorem AWL_box {k c:Nat} {x:AX}:AWL E dr base W (⟨d,.box k c x,none⟩ :: r) K ⟨t,h,n⟩ ↔
  (0<(cellsL (evX t x)).length∧sto (evX t x)=true)∧AWL E dr base W r K ⟨putT d t (.ptr (base+k) 0 0),upd h (base+k) (some (.row false (cellsL (evX t x)).length [cellsL (evX t x)])),n⟩:=by
 simp only [AWL,AW1,wantA,aval,rdOk,bval]
 constructor
 ·rintro ⟨av,h',h1,_,h3⟩
  split at h1
  ·rename_i hc
   simp only [Option.some.injEq,Prod.mk.injEq] at h1
   obtain ⟨rfl,rfl⟩:=h1
   exact ⟨hc,h3⟩
  ·cases h1
 ·rintro ⟨hc,h3⟩
  exact ⟨_,_,by rw [if_pos hc],fun _ => trivial,h3⟩
theorem AWL_build {c:Nat} {zs:List AV} {ps:List (Nat×Nat×Nat×AX)}:AWL E dr base W (⟨d,.build c zs ps,none⟩ :: r) K ⟨t,h,n⟩ ↔
  ∃ cs,afill zs (ps.map fun p => (p.2.1,p.2.2.1,evX t p.2.2.2))=some cs∧AWL E dr base W r K ⟨putT d t (.agg cs),h,n⟩:=by
 simp only [AWL,AW1,wantA,aval,rdOk]
 cases afill zs (ps.map fun p => (p.2.1,p.2.2.1,evX t p.2.2.2)) <;> simp [ex2,ex3,ex4,ex5]
theorem AWL_load {c m:Nat} {ag:Bool} {a:AX}:AWL E dr base W (⟨d,.load c ag m a,none⟩ :: r) K ⟨t,h,n⟩ ↔
  ∃ v,aload h ag m (evX t a)=some v∧(dr=true→klt base (evX t a)∧(far c=true→cellsOut W m (evX t a)))∧AWL E dr base W r K ⟨putT d t v,h,n⟩:=by
 simp only [AWL,AW1,wantA,aval,rdOk]
 cases aload h ag m (evX t a) <;> simp [ex2,ex3,ex4,ex5]
theorem AWL_store {c m:Nat} {a x:AX}:AWL E dr base W (⟨d,.store c m a x,none⟩ :: r) K ⟨t,h,n⟩ ↔
  ∃ h',astore h m (evX t a) (evX t x)=some h'∧(dr=true→far c=true→cellsIn base W m (evX t a))∧AWL E dr base W r K ⟨putT d t .hole,h',n⟩:=by
 simp only [AWL,AW1,wantA,aval,rdOk]
 cases astore h m (evX t a) (evX t x) <;> simp [ex2,ex3,ex4,ex5]
def notNil:AV→Bool
 | .ptr _ _ _ | .fptr _ | .func _ _ | .iface _ _ => true
 | _ => false
theorem AWL_bin {op:BinOp} {tk:TK} {c:Nat} {x y:AX}:AWL E dr base W (⟨d,.bin op tk c x y,none⟩ :: r) K ⟨t,h,n⟩ ↔
  ∃ v,abin op tk (isC x||isC y) (evX t x) (evX t y)=some v∧AWL E dr base W r K ⟨putT d t v,h,n⟩:=by
 simp only [AWL,AW1,wantA,aval,rdOk]
 cases abin op tk (isC x||isC y) (evX t x) (evX t y) <;> simp [ex2,ex3,ex4,ex5]
theorem AWL_convi {k:IntKind} {c c':Nat} {x:AX}:AWL E dr base W (⟨d,.convi k c c' x,none⟩ :: r) K ⟨t,h,n⟩ ↔
  ∃ k0 q,evX t x=.int k0 q∧AWL E dr base W r K ⟨putT d t (.int k (k.wrap q)),h,n⟩:=by
 simp only [AWL,AW1,wantA,aval,rdOk]
 cases evX t x <;> simp [ex2,ex3,ex4,ex5]
theorem AWL_faddr {c i off:Nat} {a:AX}:AWL E dr base W (⟨d,.faddr c i off a,none⟩ :: r) K ⟨t,h,n⟩ ↔
    (match evX t a with
     | .ptr κ i o => AWL E dr base W r K ⟨putT d t (.ptr κ i (o+off)),h,n⟩
     | .fptr cs => off≤cs.length∧AWL E dr base W r K ⟨putT d t (.fptr (cs.drop off)),h,n⟩
     | _ => False):=by
  simp only [AWL,AW1,wantA,aval,rdOk]
  cases evX t a <;> simp [ex2,ex3,ex4,ex5]
theorem AWL_iaddr {c esz:Nat} {s i:AX}:AWL E dr base W (⟨d,.iaddr c esz s i,none⟩ :: r) K ⟨t,h,n⟩ ↔
  ∃ v,aiaddr h esz (evX t s) (evX t i)=some v∧(dr=true→klt base (evX t s))∧AWL E dr base W r K ⟨putT d t v,h,n⟩:=by
 simp only [AWL,AW1,wantA,aval,rdOk]
 cases aiaddr h esz (evX t s) (evX t i) <;> simp [ex2,ex3,ex4,ex5]
theorem AWL_len {c:Nat} {x:AX}:AWL E dr base W (⟨d,.len c x,none⟩ :: r) K ⟨t,h,n⟩ ↔
    (match evX t x with
     | .nils => AWL E dr base W r K ⟨putT d t (.int .i64 0),h,n⟩
     | .sl _ _ m => AWL E dr base W r K ⟨putT d t (.int .i64 m),h,n⟩
     | .slv es => AWL E dr base W r K ⟨putT d t (.int .i64 es.length),h,n⟩
     | _ => False):=by
  simp only [AWL,AW1,wantA,aval,rdOk]
  cases evX t x <;> simp [ex2,ex3,ex4,ex5]
end
inductive FV where
 | undef | hole
 | bool (b:Bool) | int (k:IntKind) (n:Int) | str (s:ByteArray)
 | nilp | nils | nilf | nili | nilm
 | sv (n:Nat) (f:Nat→List FV)
 | fp (cs:List FV)
 | err (c:Nat) (e:Option Int)
 | pt (o:Option (List FV))
 | func (f:Nat) (caps:List FV)
 | iface (c:Nat) (v:FV)
 | agg (cs:List FV) | tup (vs:List FV)
instance:Inhabited FV:=⟨.undef⟩
mutual
def toA:FV→AV
 | .undef => .undef | .hole => .hole
 | .bool b => .bool b | .int k n => .int k n | .str s => .str s
 | .nilp => .nilp | .nils => .slv [] | .nilf => .nilf | .nili => .nili | .nilm => .nilm
 | .sv n f => .slv ((List.range n).map fun i => toAL (f i))
 | .fp cs => .fptr (toAL cs)
 | .pt none => .nilp
 | .pt (some cs) => .fptr (toAL cs)
 | .err _ none => .nili
 | .err c (some n) => .iface c (.int .i64 n)
 | .func f cs => .func f (toAL cs)
 | .iface c v => .iface c (toA v)
 | .agg cs => .agg (toAL cs)
 | .tup cs => .tup (toAL cs)
def toAL:List FV→List AV
 | [] => []
 | v :: l => toA v :: toAL l
end
theorem toAL_map (l:List FV):toAL l=l.map toA:=by
 induction l with
 | nil => rfl
 | cons v l ih => simp [toAL,ih]
def isH:FV→Bool
 | .bool _ | .int _ _ | .str _ | .nilp | .nilf | .nili | .nilm | .sv _ _ | .fp _ | .err _ _ | .pt _ => true
 | _ => false
inductive RD:FV→AV→Prop
 | c (v) (h:isH v=true):RD v (toA v)
 | sv0 (f):RD (.sv 0 f) .nils
 | nils:RD .nils .nils
 | func (f) (cs:List FV) (cs':List AV) (hl:cs'.length=cs.length) (hc:∀ i,i<cs.length→RD (cs.getD i .undef) (cs'.getD i .undef)):RD (.func f cs) (.func f cs')
 | iface (c v a) (h:RD v a):RD (.iface c v) (.iface c a)
 | agg (cs:List FV) (cs':List AV) (hl:cs'.length=cs.length) (hc:∀ i,i<cs.length→RD (cs.getD i .undef) (cs'.getD i .undef)):RD (.agg cs) (.agg cs')
 | tup (cs:List FV) (cs':List AV) (hl:cs'.length=cs.length) (hc:∀ i,i<cs.length→RD (cs.getD i .undef) (cs'.getD i .undef)):RD (.tup cs) (.tup cs')
inductive LV where
 | undef | hole
 | d (v:FV)
 | p (k o:Nat)
 | ep (k i o:Nat)
 | ls (k lo n:Nat)
 | agg (cs:List LV) | tup (vs:List LV)
 | func (f:Nat) (caps:List LV)
 | mapk (k:Nat)
instance:Inhabited LV:=⟨.undef⟩
inductive Ob where
 | st (ro:Bool) (cs:List LV)
 | sl (ro:Bool) (esz n:Nat) (f:Nat→List FV)
abbrev Rho:=Nat→Option Nat
inductive RL (ρ:Rho):LV→AV→Prop
 | undef (a):RL ρ .undef a
 | hole:RL ρ .hole .hole
 | d (v a) (h:RD v a):RL ρ (.d v) a
 | p (k o κ) (h:ρ k=some κ):RL ρ (.p k o) (.ptr κ 0 o)
 | ep (k i o κ) (h:ρ k=some κ):RL ρ (.ep k i o) (.ptr κ i o)
 | ls (k lo n κ) (h:ρ k=some κ):RL ρ (.ls k lo n) (.sl κ lo n)
 | ls0 (k lo) (h:ρ k=none):RL ρ (.ls k lo 0) .nils
 | agg (cs:List LV) (cs':List AV) (hl:cs'.length=cs.length) (hc:∀ i,i<cs.length→RL ρ (cs.getD i .undef) (cs'.getD i .undef)):RL ρ (.agg cs) (.agg cs')
 | tup (cs:List LV) (cs':List AV) (hl:cs'.length=cs.length) (hc:∀ i,i<cs.length→RL ρ (cs.getD i .undef) (cs'.getD i .undef)):RL ρ (.tup cs) (.tup cs')
 | func (f) (cs:List LV) (cs':List AV) (hl:cs'.length=cs.length) (hc:∀ i,i<cs.length→RL ρ (cs.getD i .undef) (cs'.getD i .undef)):RL ρ (.func f cs) (.func f cs')
 | mapk (k κ) (h:ρ k=some κ):RL ρ (.mapk k) (.map κ)
def PW {α γ:Type} (R:α→γ→Prop) (d:α) (e:γ) (cs:List α) (cs':List γ):Prop:=cs'.length=cs.length∧∀ i,i<cs.length→R (cs.getD i d) (cs'.getD i e)
abbrev RDs (cs:List FV) (cs':List AV):Prop:=PW RD .undef .undef cs cs'
abbrev RLs (ρ:Rho) (cs:List LV) (cs':List AV):Prop:=PW (RL ρ) .undef .undef cs cs'
def RO (ρ:Rho) (h:Hp) (k:Nat):Ob→Prop
 | .st ro cs => ∃ κ cs',ρ k=some κ∧h κ=some (.row ro cs.length [cs'])∧RLs ρ cs cs'
 | .sl ro esz n f => (∃ κ es,ρ k=some κ∧h κ=some (.row ro esz es)∧n≤es.length∧∀ i,i<n→RDs (f i) (es.getD i []))∨(ρ k=none∧n=0)
def lk {α:Type} (d:α):List (Nat×α)→Nat→α
 | [],_ => d
 | (k,v) :: l,i => bif Nat.beq i k then v else lk d l i
abbrev lkT (t:List (Nat×LV)) (i:Nat):LV:=lk .undef t i
def lkO:List (Nat×Ob)→Nat→Option Ob
 | [],_ => none
 | (k,o) :: l,i => bif Nat.beq i k then some o else lkO l i
structure S2 where
 t:List (Nat×LV)
 h:List (Nat×Ob)
structure Frm where
 D:Nat→Prop
 h0:Hp
 n0:Nat
 ρ0:Rho
def AllR (h:Hp):Prop:=∀ κ es,h κ≠some (.mp es)
theorem AllR.upd {h:Hp} (r:AllR h) (κ:Nat) (ro:Bool) (e:Nat) (es:List (List AV)):AllR (upd h κ (some (.row ro e es))):=by
 intro κ' q hq
 simp only [Go.Proofs.YtablleokoifolaaGreatDoor.upd] at hq
 split at hq
 ·cases hq
 ·exact r κ' q hq
theorem AllR.none {h:Hp} (r:AllR h) (κ:Nat):AllR (Go.Proofs.YtablleokoifolaaGreatDoor.upd h κ none):=by
 intro κ' q hq
 simp only [Go.Proofs.YtablleokoifolaaGreatDoor.upd] at hq
 split at hq
 ·cases hq
 ·exact r κ' q hq
theorem AllR.ro {h:Hp} (r:AllR h) (L:List Nat):AllR (roAll L h):=by
 intro κ' q hq
 simp only [roAll] at hq
 split at hq
 ·obtain ⟨o,ho,e⟩:=Option.map_eq_some_iff.1 hq
  cases o with
  | row => cases e
  | mp es => exact r κ' es ho
 ·exact r κ' q hq
structure Rep (K0:List Nat) (fr:Frm) (ρ:Rho) (t:List (Nat×LV)) (h:List (Nat×Ob)) (s:St):Prop where
 t:∀ i,RL ρ (lkT t i) (s.t i)
 o:∀ k o,lkO h k=some o→RO ρ s.h k o
 inj:∀ k k' κ,(lkO h k).isSome=true→(lkO h k').isSome=true→ρ k=some κ→ρ k'=some κ→k=k'
 lt:∀ k κ,(lkO h k).isSome=true→ρ k=some κ→κ<s.n
 fm:∀ κ,fr.D κ→κ<fr.n0∧s.h κ=fr.h0 κ
 dis:∀ k κ,(lkO h k).isSome=true→ρ k=some κ→¬ fr.D κ
 n0:fr.n0≤s.n
 an:∀ k∈K0,ρ k=fr.ρ0 k
 rows:AllR s.h
structure AW2 (E:Env) (nt:Nat) (K0:List Nat) (fr:Frm) (c:ACode) (Q:AExit→S2→Prop) (s2:S2):Prop where
 go:∀ s ρ,Rep K0 fr ρ s2.t s2.h s→AW E nt c (fun e s' => ∃ s2' ρ',Q e s2'∧Rep K0 fr ρ' s2'.t s2'.h s') s
theorem AW2.skip {E:Env} {nt:Nat} {K0:List Nat} {fr:Frm} {Q:AExit→S2→Prop} {s:S2} (h:Q .normal s):AW2 E nt K0 fr .skip Q s:=
 ⟨fun s' ρ r => AW.skip ⟨s,ρ,h,r⟩⟩
theorem AW2.ret {E:Env} {nt:Nat} {K0:List Nat} {fr:Frm} {Q:AExit→S2→Prop} {s:S2} (h:Q .ret s):AW2 E nt K0 fr .ret Q s:=
 ⟨fun s' ρ r => AW.ret ⟨s,ρ,h,r⟩⟩
theorem AW2.exit {E:Env} {nt:Nat} {K0:List Nat} {fr:Frm} {i:Nat} {Q:AExit→S2→Prop} {s:S2} (h:Q (.exit i) s):AW2 E nt K0 fr (.exit i) Q s:=
 ⟨fun s' ρ r => AW.exit ⟨s,ρ,h,r⟩⟩
def seqQ2 (E:Env) (nt:Nat) (K0:List Nat) (fr:Frm) (b:ACode) (Q:AExit→S2→Prop):AExit→S2→Prop
 | .normal,s => AW2 E nt K0 fr b Q s
 | .ret,s => Q .ret s
 | .exit i,s => Q (.exit i) s
theorem AW2.mono {E:Env} {nt:Nat} {K0:List Nat} {fr:Frm} {c:ACode} {Q Q':AExit→S2→Prop} {s:S2} (h:AW2 E nt K0 fr c Q s) (hq:∀ e s,Q e s→Q' e s):AW2 E nt K0 fr c Q' s:=
 ⟨fun s' ρ r => (h.go s' ρ r).mono fun e s'' ⟨s2',ρ',k1,k2⟩ => ⟨s2',ρ',hq _ _ k1,k2⟩⟩
theorem AW2.seq {E:Env} {nt:Nat} {K0:List Nat} {fr:Frm} {x y:ACode} {Q:AExit→S2→Prop} {s:S2} (h:AW2 E nt K0 fr x (seqQ2 E nt K0 fr y Q) s):AW2 E nt K0 fr (.seq x y) Q s:=
 ⟨fun s' ρ r => AW.seq ((h.go s' ρ r).mono fun e s'' ⟨s2',ρ',k1,k2⟩ => by
  cases e with
  | normal => exact k1.go s'' ρ' k2
  | ret => exact ⟨s2',ρ',k1,k2⟩
  | exit i => exact ⟨s2',ρ',k1,k2⟩)⟩
def blockQ2 (i:Nat) (Q:AExit→S2→Prop):AExit→S2→Prop
 | .exit j,s => if j=i then Q .normal s else Q (.exit j) s
 | .normal,s => Q .normal s
 | .ret,s => Q .ret s
theorem AW2.block {E:Env} {nt:Nat} {K0:List Nat} {fr:Frm} {i:Nat} {x:ACode} {Q:AExit→S2→Prop} {s:S2} (h:AW2 E nt K0 fr x (blockQ2 i Q) s):AW2 E nt K0 fr (.block i x) Q s:=
 ⟨fun s' ρ r => AW.block ((h.go s' ρ r).mono fun e s'' ⟨s2',ρ',k1,k2⟩ => by
  cases e with
  | normal => exact ⟨s2',ρ',k1,k2⟩
  | ret => exact ⟨s2',ρ',k1,k2⟩
  | exit j => 
   simp only [blockQ,blockQ2] at k1 ⊢
   split at k1
   ·rename_i hj; rw [if_pos hj]; exact ⟨s2',ρ',k1,k2⟩
   ·rename_i hj; rw [if_neg hj]; exact ⟨s2',ρ',k1,k2⟩)⟩
theorem AW2.loop {E:Env} {nt:Nat} {K0:List Nat} {fr:Frm} {x:ACode} {Q:AExit→S2→Prop} {σ:Type} (J:σ→S2) (P:Nat→σ→Prop)
  (round:∀ k v,P k v→AW2 E nt K0 fr x (fun e s' => match e with | .normal => ∃ k' v',k'<k∧P k' v'∧s'=J v' | .ret => Q .ret s' | .exit i => Q (.exit i) s') (J v))
  (k:Nat) (v:σ) (h:P k v):AW2 E nt K0 fr (.loop x) Q (J v):=
 ⟨fun s ρ r => AW.loop (fun k s => ∃ v ρ,P k v∧Rep K0 fr ρ (J v).t (J v).h s) (fun k s ⟨v,ρ,hp,hr⟩ => ((round k v hp).go s ρ hr).mono fun e s' ⟨s2',ρ',k1,k2⟩ => by
  cases e with
  | normal => 
   obtain ⟨k',v',g1,g2,rfl⟩:=k1
   exact ⟨k',g1,v',ρ',g2,k2⟩
  | ret => exact ⟨s2',ρ',k1,k2⟩
  | exit i => exact ⟨s2',ρ',k1,k2⟩) k s ⟨v,ρ,h,r⟩⟩
def cFV:AV→FV
 | .bool b => .bool b | .int k n => .int k n | .str s => .str s
 | .nilp => .nilp | .nils => .nils | .nili => .nili | .nilf => .nilf | .nilm => .nilm
 | _ => .undef
def evL (t:List (Nat×LV)):AX→LV
 | .t i => lkT t i
 | .c v => if constOk v then .d (cFV v) else .undef
 | .f f => .d (.func f [])
theorem RL.cst {ρ:Rho} {v:AV} (h:constOk v=true):RL ρ (.d (cFV v)) v:=by
 cases v <;> first | (simp [constOk] at h; done) | skip
 all_goals first | exact .d _ _ .nils | exact .d _ _ (.c _ rfl)
theorem evL_sound {ρ:Rho} {t:List (Nat×LV)} {u:Nat→AV} (ht:∀ i,RL ρ (lkT t i) (u i)) (x:AX):RL ρ (evL t x) (evX u x):=by
 cases x with
 | t i => exact ht i
 | c v => 
  simp only [evL,evX]
  split
  ·rename_i h; exact RL.cst h
  ·exact .undef _
 | f f => exact .d _ _ (.func f [] [] rfl (fun i hi => by simp at hi))
theorem zgJ {k:IntKind} {n:Int} {a:AV} (h:RD (.int k n) a):a=.int k n:=by cases h; rfl
theorem zkk {b:Bool} {a:AV} (h:RD (.bool b) a):a=.bool b:=by cases h; rfl
theorem zuq {s:ByteArray} {a:AV} (h:RD (.str s) a):a=.str s:=by cases h; rfl
theorem rl_d {ρ:Rho} {v:FV} {a:AV} (h:RL ρ (.d v) a):RD v a:=by cases h; assumption
theorem rl_p {ρ:Rho} {k o:Nat} {a:AV} (h:RL ρ (.p k o) a):∃ κ,ρ k=some κ∧a=.ptr κ 0 o:=by cases h; exact ⟨_,‹_›,rfl⟩
theorem zwd {ρ:Rho} {k i o:Nat} {a:AV} (h:RL ρ (.ep k i o) a):∃ κ,ρ k=some κ∧a=.ptr κ i o:=by cases h; exact ⟨_,‹_›,rfl⟩
theorem zwc {ρ:Rho} {k lo n:Nat} {a:AV} (h:RL ρ (.ls k lo n) a):(∃ κ,ρ k=some κ∧a=.sl κ lo n)∨(ρ k=none∧n=0∧a=.nils):=by
 cases h
 ·exact .inl ⟨_,‹_›,rfl⟩
 ·exact .inr ⟨‹_›,rfl,rfl⟩
theorem zya {ρ:Rho} {a:AV} (h:RL ρ .hole a):a=.hole:=by cases h; rfl
theorem zwJ {ρ:Rho} {cs:List LV} {a:AV} (h:RL ρ (.agg cs) a):∃ cs',a=.agg cs'∧RLs ρ cs cs':=by cases h; exact ⟨_,rfl,‹_›,‹_›⟩
theorem zxP {ρ:Rho} {cs:List LV} {a:AV} (h:RL ρ (.tup cs) a):∃ cs',a=.tup cs'∧RLs ρ cs cs':=by cases h; exact ⟨_,rfl,‹_›,‹_›⟩
theorem zuY {ρ:Rho} {f:Nat} {cs:List LV} {a:AV} (h:RL ρ (.func f cs) a):∃ cs',a=.func f cs'∧RLs ρ cs cs':=by cases h; exact ⟨_,rfl,‹_›,‹_›⟩
theorem zvE {cs:List FV} {a:AV} (h:RD (.agg cs) a):∃ cs',a=.agg cs'∧RDs cs cs':=by
 cases h with
 | c h => cases ‹isH (.agg cs)=true›
 | agg => exact ⟨_,rfl,‹_›,‹_›⟩
theorem zyq {cs:List FV} {a:AV} (h:RD (.tup cs) a):∃ cs',a=.tup cs'∧RDs cs cs':=by
 cases h with
 | c h => cases ‹isH (.tup cs)=true›
 | tup => exact ⟨_,rfl,‹_›,‹_›⟩
theorem ztu {f:Nat} {cs:List FV} {a:AV} (h:RD (.func f cs) a):∃ cs',a=.func f cs'∧RDs cs cs':=by
 cases h with
 | c h => cases ‹isH (.func f cs)=true›
 | func => exact ⟨_,rfl,‹_›,‹_›⟩
theorem zmr {c:Nat} {v:FV} {a:AV} (h:RD (.iface c v) a):∃ b,a=.iface c b∧RD v b:=by
 cases h with
 | c h => cases ‹isH (.iface c v)=true›
 | iface => exact ⟨_,rfl,‹_›⟩
theorem zxw {cs:List FV} {a:AV} (h:RD (.fp cs) a):a=.fptr (cs.map toA):=by
 cases h
 simp [toA,toAL_map]
theorem zva {n:Nat} {f:Nat→List FV} {a:AV} (h:RD (.sv n f) a):a=.slv ((List.range n).map fun i => (f i).map toA)∨(n=0∧a=.nils):=by
 cases h
 ·left; simp [toA,toAL_map]
 ·exact .inr ⟨rfl,rfl⟩
theorem zfc {a:AV} (h:RD .nils a):a=.nils:=by
 cases h with
 | c h => cases ‹isH .nils=true›
 | nils => rfl
theorem PW.nil {α γ:Type} {R:α→γ→Prop} {d:α} {e:γ}:PW R d e [] []:=⟨rfl,fun i hi => by simp at hi⟩
theorem PW.cons {α γ:Type} {R:α→γ→Prop} {d:α} {e:γ} {a:α} {b:γ} {l:List α} {m:List γ} (h:R a b) (t:PW R d e l m):PW R d e (a :: l) (b :: m):=
 ⟨by simp [t.1],fun i hi => by
  cases i with
  | zero => exact h
  | succ i => exact t.2 i (by simpa using hi)⟩
theorem PW.one {α γ:Type} {R:α→γ→Prop} {d:α} {e:γ} {a:α} {b:γ} (h:R a b):PW R d e [a] [b]:=.cons h .nil
theorem PW.uncons {α γ:Type} {R:α→γ→Prop} {d:α} {e:γ} {a:α} {l:List α} {m:List γ} (t:PW R d e (a :: l) m):∃ b m',m=b :: m'∧R a b∧PW R d e l m':=by
 cases m with
 | nil => have:=t.1; simp at this
 | cons b m => 
  refine ⟨b,m,rfl,t.2 0 (by simp),by have:=t.1; simpa using this,fun i hi => ?_⟩
  have:=t.2 (i+1) (by simpa using hi)
  simpa using this
theorem PW.drop {α γ:Type} {R:α→γ→Prop} {d:α} {e:γ} {l:List α} {m:List γ} (t:PW R d e l m) (k:Nat):PW R d e (l.drop k) (m.drop k):=
 ⟨by simp [t.1],fun i hi => by
  have:=t.2 (k+i) (by simp at hi; omega)
  simpa [List.getD_eq_getElem?_getD] using this⟩
theorem PW.take {α γ:Type} {R:α→γ→Prop} {d:α} {e:γ} {l:List α} {m:List γ} (t:PW R d e l m) (k:Nat):PW R d e (l.take k) (m.take k):=
 ⟨by simp [t.1],fun i hi => by
  have hi':i<k∧i<l.length:=by simp at hi; omega
  have:=t.2 i hi'.2
  simpa [List.getD_eq_getElem?_getD,List.getElem?_take,hi'.1] using this⟩
theorem PW.append {α γ:Type} {R:α→γ→Prop} {d:α} {e:γ} {l l':List α} {m m':List γ} (t:PW R d e l m) (u:PW R d e l' m'):PW R d e (l++l') (m++m'):=by
 refine ⟨by simp [t.1,u.1],fun i hi => ?_⟩
 by_cases h:i<l.length
 ·have:=t.2 i h
  simpa [List.getD_eq_getElem?_getD,List.getElem?_append,h,t.1] using this
 ·have:=u.2 (i - l.length) (by simp at hi; omega)
  simpa [List.getD_eq_getElem?_getD,List.getElem?_append,h,t.1] using this
theorem PW.map {α γ α' γ':Type} {R:α→γ→Prop} {R':α'→γ'→Prop} {d:α} {e:γ} {d':α'} {e':γ'} {l:List α} {m:List γ} (f:α→α') (g:γ→γ') (t:PW R d e l m) (h:∀ a b,R a b→R' (f a) (g b)):PW R' d' e' (l.map f) (m.map g):=
 ⟨by simp [t.1],fun i hi => by
  have hi':i<l.length:=by simpa using hi
  have:=h _ _ (t.2 i hi')
  have hm:i<m.length:=by rw [t.1]; exact hi'
  simpa [List.getD_eq_getElem?_getD,hi',hm] using this⟩
theorem PW.mapl {α γ α':Type} {R:α→γ→Prop} {R':α'→γ→Prop} {d:α} {e:γ} {d':α'} {l:List α} {m:List γ} (f:α→α') (t:PW R d e l m) (h:∀ a b,R a b→R' (f a) b):PW R' d' e (l.map f) m:=by
 have:=PW.map (R':=R') (d':=d') (e':=e) f id t h
 simpa using this
theorem PW.spl {R:LV→AV→Prop} {cs:List LV} {cs':List AV} {new:List LV} {new':List AV} (t:PW R .undef .undef cs cs') (u:PW R .undef .undef new new') (o:Nat) :
  PW R .undef .undef (cs.take o++(new++cs.drop (o+new.length))) (splice cs' o new'):=by
 unfold splice
 rw [u.1]
 exact (t.take o).append (u.append (t.drop _))
theorem PW.splF {R:FV→AV→Prop} {cs:List FV} {cs':List AV} {new:List FV} {new':List AV} (t:PW R .undef .undef cs cs') (u:PW R .undef .undef new new') (o:Nat) :
  PW R .undef .undef (cs.take o++(new++cs.drop (o+new.length))) (splice cs' o new'):=by
 unfold splice
 rw [u.1]
 exact (t.take o).append (u.append (t.drop _))
def spl {α:Type} (cs:List α) (o:Nat) (new:List α):List α:=cs.take o++(new++cs.drop (o+new.length))
def cellsV:LV→List LV
 | .agg cs => cs
 | .d (.agg cs) => cs.map .d
 | v => [v]
def stoV:LV→Bool
 | .agg _ => true
 | .d .undef | .d .hole | .d (.tup _) => false
 | .d _ => true
 | .p _ _ | .ep _ _ _ | .ls _ _ _ | .mapk _ | .func _ _ => true
 | _ => false
theorem cellsV_sound {ρ:Rho} {v:LV} {a:AV} (r:RL ρ v a) (h:stoV v=true):RLs ρ (cellsV v) (cellsL a)∧sto a=true:=by
 cases r with
 | undef => cases h
 | hole => cases h
 | d v a r => 
  cases v with
  | undef => cases h
  | hole => cases h
  | tup => cases h
  | agg cs => 
   obtain ⟨cs',rfl,k⟩:=zvE r
   exact ⟨PW.mapl LV.d k (fun a b h => .d _ _ h),rfl⟩
  | nils => obtain rfl:=zfc r; exact ⟨PW.one (.d _ _ r),rfl⟩
  | sv n f => rcases zva r with rfl | ⟨rfl,rfl⟩ <;> exact ⟨PW.one (.d _ _ r),rfl⟩
  | func f cs => obtain ⟨cs',rfl,k⟩:=ztu r; exact ⟨PW.one (.d _ _ r),rfl⟩
  | iface c v => obtain ⟨b,rfl,k⟩:=zmr r; exact ⟨PW.one (.d _ _ r),rfl⟩
  | fp cs => obtain rfl:=zxw r; exact ⟨PW.one (.d _ _ r),rfl⟩
  | err c e => cases r; cases e <;> exact ⟨PW.one (.d _ _ (.c _ rfl)),rfl⟩
  | pt o => cases r; cases o <;> exact ⟨PW.one (.d _ _ (.c _ rfl)),rfl⟩
  | _ => cases r; exact ⟨PW.one (.d _ _ (.c _ rfl)),rfl⟩
 | p k o κ h' => exact ⟨PW.one (.p _ _ _ h'),rfl⟩
 | ep k i o κ h' => exact ⟨PW.one (.ep _ _ _ _ h'),rfl⟩
 | ls k lo n κ h' => exact ⟨PW.one (.ls _ _ _ _ h'),rfl⟩
 | ls0 k lo h' => exact ⟨PW.one (.ls0 _ _ h'),rfl⟩
 | agg cs cs' hl hc => exact ⟨⟨hl,hc⟩,rfl⟩
 | tup => cases h
 | func f cs cs' hl hc => exact ⟨PW.one (.func _ _ _ hl hc),rfl⟩
 | mapk k κ h' => exact ⟨PW.one (.mapk _ _ h'),rfl⟩
mutual
def scr (k:Nat):LV→LV
 | .p k' o => bif Nat.beq k k' then .undef else .p k' o
 | .ep k' i o => bif Nat.beq k k' then .undef else .ep k' i o
 | .ls k' lo n => bif Nat.beq k k' then .undef else .ls k' lo n
 | .mapk k' => bif Nat.beq k k' then .undef else .mapk k'
 | .agg cs => .agg (scrL k cs)
 | .tup cs => .tup (scrL k cs)
 | .func f cs => .func f (scrL k cs)
 | .undef => .undef | .hole => .hole
 | .d v => .d v
def scrL (k:Nat):List LV→List LV
 | [] => []
 | v :: l => scr k v :: scrL k l
end
theorem scrL_map (k:Nat) (l:List LV):scrL k l=l.map (scr k):=by
 induction l with
 | nil => rfl
 | cons v l ih => simp [scrL,ih]
theorem scrL_getD (k:Nat) (l:List LV) (i:Nat):(scrL k l).getD i .undef=scr k (l.getD i .undef):=by
 rw [scrL_map]
 simp only [List.getD_eq_getElem?_getD,List.getElem?_map]
 cases l[i]? <;> rfl
def updR (ρ:Rho) (k:Nat) (x:Option Nat):Rho:=fun i => if i=k then x else ρ i
theorem updR_same (ρ:Rho) (k:Nat) (x:Option Nat):updR ρ k x k=x:=by simp [updR]
theorem updR_ne (ρ:Rho) {k i:Nat} (x:Option Nat) (h:i≠k):updR ρ k x i=ρ i:=by simp [updR,h]
theorem beqF {a b:Nat} (h:a≠b):Nat.beq a b=false:=by
 cases e:Nat.beq a b with
 | false => rfl
 | true => exact absurd (Nat.eq_of_beq_eq_true e) h
theorem beqT (a:Nat):Nat.beq a a=true:=by simp
theorem zmp {ρ:Rho} {k:Nat} {x:Option Nat} {v:LV} {a:AV} (r:RL ρ v a):RL (updR ρ k x) (scr k v) a:=by
 induction r with
 | undef a => exact .undef _
 | hole => exact .hole
 | d v a h => exact .d _ _ h
 | p k' o κ h => 
  simp only [scr]
  by_cases e:k=k'
  ·subst e; rw [beqT]; exact .undef _
  ·rw [beqF e]; exact .p _ _ _ (by rw [updR_ne _ _ (Ne.symm e)]; exact h)
 | ep k' i o κ h => 
  simp only [scr]
  by_cases e:k=k'
  ·subst e; rw [beqT]; exact .undef _
  ·rw [beqF e]; exact .ep _ _ _ _ (by rw [updR_ne _ _ (Ne.symm e)]; exact h)
 | ls k' lo n κ h => 
  simp only [scr]
  by_cases e:k=k'
  ·subst e; rw [beqT]; exact .undef _
  ·rw [beqF e]; exact .ls _ _ _ _ (by rw [updR_ne _ _ (Ne.symm e)]; exact h)
 | ls0 k' lo h => 
  simp only [scr]
  by_cases e:k=k'
  ·subst e; rw [beqT]; exact .undef _
  ·rw [beqF e]; exact .ls0 _ _ (by rw [updR_ne _ _ (Ne.symm e)]; exact h)
 | mapk k' κ h => 
  simp only [scr]
  by_cases e:k=k'
  ·subst e; rw [beqT]; exact .undef _
  ·rw [beqF e]; exact .mapk _ _ (by rw [updR_ne _ _ (Ne.symm e)]; exact h)
 | agg cs cs' hl hc ih => exact .agg _ _ (by rw [scrL_map]; simpa using hl) (fun i hi => by rw [scrL_getD]; exact ih i (by rw [scrL_map] at hi; simpa using hi))
 | tup cs cs' hl hc ih => exact .tup _ _ (by rw [scrL_map]; simpa using hl) (fun i hi => by rw [scrL_getD]; exact ih i (by rw [scrL_map] at hi; simpa using hi))
 | func f cs cs' hl hc ih => exact .func _ _ _ (by rw [scrL_map]; simpa using hl) (fun i hi => by rw [scrL_getD]; exact ih i (by rw [scrL_map] at hi; simpa using hi))
theorem scrL_sound {ρ:Rho} {k:Nat} {x:Option Nat} {cs:List LV} {cs':List AV} (r:RLs ρ cs cs'):RLs (updR ρ k x) (scrL k cs) cs':=
 ⟨by rw [scrL_map]; simpa using r.1,fun i hi => by rw [scrL_getD]; exact zmp (r.2 i (by rw [scrL_map] at hi; simpa using hi))⟩
def scrT (k:Nat):List (Nat×LV)→List (Nat×LV)
 | [] => []
 | (i,v) :: l => (i,scr k v) :: scrT k l
theorem scrT_lk (k:Nat) (t:List (Nat×LV)) (i:Nat):lkT (scrT k t) i=scr k (lkT t i):=by
 induction t with
 | nil => rfl
 | cons p l ih => 
  obtain ⟨j,v⟩:=p
  simp only [scrT,lkT,lk]
  cases Nat.beq i j
  ·exact ih
  ·rfl
def scrO (k:Nat):Ob→Ob
 | .st ro cs => .st ro (scrL k cs)
 | .sl ro esz n f => .sl ro esz n f
def scrH (k:Nat):List (Nat×Ob)→List (Nat×Ob)
 | [] => []
 | (i,o) :: l => bif Nat.beq i k then scrH k l else (i,scrO k o) :: scrH k l
theorem scrH_lk (k:Nat) (h:List (Nat×Ob)) (i:Nat):lkO (scrH k h) i=if i=k then none else (lkO h i).map (scrO k):=by
 induction h with
 | nil => simp [scrH,lkO]
 | cons p l ih => 
  obtain ⟨j,o⟩:=p
  simp only [scrH,lkO]
  by_cases hj:j=k
  ·subst hj
   rw [beqT,cond_true,ih]
   by_cases hi:i=j
   ·simp [hi]
   ·rw [beqF hi]; simp [hi]
  ·rw [beqF hj,cond_false]
   simp only [lkO]
   by_cases hi:i=j
   ·subst hi; rw [beqT]; simp [hj]
   ·rw [beqF hi]; simpa using ih
theorem RO.other {ρ:Rho} {h h':Hp} {k k':Nat} {x:Option Nat} {o:Ob} (r:RO ρ h k' o) (hne:k'≠k) (hh:∀ κ,ρ k'=some κ→h' κ=h κ):RO (updR ρ k x) h' k' (scrO k o):=by
 cases o with
 | st ro cs => 
  obtain ⟨κ,cs',h1,h2,h3⟩:=r
  refine ⟨κ,cs',by rw [updR_ne _ _ hne]; exact h1,?_,scrL_sound h3⟩
  rw [hh κ h1,h2,scrL_map]; simp
 | sl ro esz n f => 
  rcases r with ⟨κ,es,h1,h2,h3⟩ | ⟨h1,h2⟩
  ·exact .inl ⟨κ,es,by rw [updR_ne _ _ hne]; exact h1,by rw [hh κ h1]; exact h2,h3⟩
  ·exact .inr ⟨by rw [updR_ne _ _ hne]; exact h1,h2⟩
theorem Rep.new {K0:List Nat} {fr:Frm} {ρ:Rho} {t:List (Nat×LV)} {h:List (Nat×Ob)} {s:St} (r:Rep K0 fr ρ t h s) {k:Nat} (hk:K0.contains k=false) {o:Ob} {x:Option Nat} {κ':Nat} {h':Hp}
  (hx:x=none∨x=some κ') (hfresh:∀ k',(lkO h k').isSome=true→k'≠k→ρ k'≠some κ') (hD:¬ fr.D κ') (hlt:κ'<s.n)
  (hh:∀ κ,κ≠κ'→((lkO h k).isSome=true→ρ k≠some κ)→h' κ=s.h κ) (ho:RO (updR ρ k x) h' k o) (hrw:AllR h') :
  Rep K0 fr (updR ρ k x) (scrT k t) ((k,o) :: scrH k h) ⟨s.t,h',s.n⟩:=by
 have old:∀ k',k'≠k→(lkO ((k,o) :: scrH k h) k')=(lkO h k').map (scrO k):=by
  intro k' hne
  simp only [lkO,beqF hne,cond_false,scrH_lk,if_neg hne]
 have oldS:∀ k',k'≠k→(lkO ((k,o) :: scrH k h) k').isSome=true→(lkO h k').isSome=true:=by
  intro k' hne hs
  rw [old k' hne] at hs; simpa using hs
 refine ⟨fun i => by rw [scrT_lk]; exact zmp (r.t i),fun k' o' ho' => ?_,fun k1 k2 κ h1 h2 e1 e2 => ?_,fun k' κ hs e => ?_,fun κ hd => ?_,fun k' κ hs e => ?_,r.n0,fun k' hk' => ?_,hrw⟩
 ·by_cases hne:k'=k
  ·subst hne
   simp only [lkO,beqT,cond_true,Option.some.injEq] at ho'
   subst ho'; exact ho
  ·rw [old k' hne] at ho'
   obtain ⟨o1,ho1,rfl⟩:=Option.map_eq_some_iff.1 ho'
   refine (r.o k' o1 ho1).other hne (fun κ hκ => hh κ ?_ ?_)
   ·rintro rfl; exact hfresh k' (by rw [ho1]; rfl) hne hκ
   ·intro hs e
    exact hne (r.inj k' k κ (by rw [ho1]; rfl) hs hκ e)
 ·by_cases n1:k1=k
  ·by_cases n2:k2=k
   ·rw [n1,n2]
   ·subst n1
    rw [updR_same] at e1
    rw [updR_ne _ _ n2] at e2
    rcases hx with rfl | rfl
    ·cases e1
    ·cases e1; exact absurd e2 (hfresh k2 (oldS k2 n2 h2) n2)
  ·by_cases n2:k2=k
   ·subst n2
    rw [updR_same] at e2
    rw [updR_ne _ _ n1] at e1
    rcases hx with rfl | rfl
    ·cases e2
    ·cases e2; exact absurd e1 (hfresh k1 (oldS k1 n1 h1) n1)
   ·rw [updR_ne _ _ n1] at e1
    rw [updR_ne _ _ n2] at e2
    exact r.inj k1 k2 κ (oldS k1 n1 h1) (oldS k2 n2 h2) e1 e2
 ·by_cases n1:k'=k
  ·subst n1
   rw [updR_same] at e
   rcases hx with rfl | rfl
   ·cases e
   ·cases e; exact hlt
  ·rw [updR_ne _ _ n1] at e
   exact r.lt k' κ (oldS k' n1 hs) e
 ·obtain ⟨q1,q2⟩:=r.fm κ hd
  refine ⟨q1,?_⟩
  have:=hh κ (fun e => hD (e ▸ hd)) (fun hs e => r.dis k κ hs e hd)
  exact this.trans q2
 ·by_cases n1:k'=k
  ·subst n1
   rw [updR_same] at e
   rcases hx with rfl | rfl
   ·cases e
   ·cases e; exact hD
  ·rw [updR_ne _ _ n1] at e
   exact r.dis k' κ (oldS k' n1 hs) e
 ·have hne:k'≠k:=by
   rintro rfl
   rw [List.contains_eq_mem] at hk
   simp [hk'] at hk
  rw [updR_ne _ _ hne]; exact r.an k' hk'
structure Y where
 t:List (Nat×LV)
 h:List (Nat×Ob)
 nw:List Nat
 us:List Nat
abbrev W2L:=List (Nat×Nat×Nat)
def Wof (W2:W2L) (ρ0:Rho):Nat→Nat→Nat→Prop:=fun κ i q => ∃ k,(k,i,q)∈W2∧ρ0 k=some κ
structure RY (K0:List Nat) (fr:Frm) (ρ0:Rho) (W2:W2L) (base res:Nat) (ρ:Rho) (y:Y) (s:St):Prop where
 r:Rep K0 fr ρ y.t y.h s
 bn:fr.n0≤base
 sn:base+res≤s.n
 us:∀ k κ,(lkO y.h k).isSome=true→ρ k=some κ→κ<base∨base+res≤κ∨∃ j∈y.us,κ=base+j
 nw:∀ k κ,(lkO y.h k).isSome=true→y.nw.contains k=false→ρ k=some κ→κ<base
 wk:∀ c∈W2,(lkO y.h c.1).isSome=true∧ρ c.1=ρ0 c.1
def AllP:List Prop→Prop
 | [] => True
 | p :: l => p∧AllP l
theorem allP_append {a b:List Prop}:AllP (a++b)↔AllP a∧AllP b:=by
 induction a with
 | nil => simp [AllP]
 | cons p a ih => simp [AllP,ih,and_assoc]
def mkL (ag:Bool) (cs:List LV):Option LV:=
 match ag,cs with
 | true,cs => some (.agg cs)
 | false,[v] => some v
 | false,_ => none
theorem mkL_sound {ρ:Rho} {ag:Bool} {cs:List LV} {cs':List AV} (r:RLs ρ cs cs') {v:LV} (h:mkL ag cs=some v):∃ a,mkV ag cs'=some a∧RL ρ v a:=by
 cases ag with
 | true => obtain rfl:=Option.some.inj h; exact ⟨_,rfl,.agg _ _ r.1 r.2⟩
 | false => 
  match cs,h with
  | [w],h => 
   obtain rfl:=Option.some.inj h
   obtain ⟨b,m',rfl,h1,h2⟩:=r.uncons
   have:m'=[]:=List.eq_nil_of_length_eq_zero (by simpa using h2.1)
   subst this
   exact ⟨b,rfl,h1⟩
  | [],h => simp [mkL] at h
  | _ :: _ :: _,h => simp [mkL] at h
def nOk (dr:Bool) (nw:List Nat) (k:Nat):Bool:=!dr||!nw.contains k
def farOkB (far:Bool) (W2:W2L) (k o n:Nat):Bool:=!far||W2.all fun c => !(Nat.beq c.1 k&&(Nat.beq c.2.1 0&&(Nat.ble o c.2.2&&Nat.blt c.2.2 (o+n))))
def farNot (far:Bool) (W2:W2L) (k:Nat):Bool:=!far||W2.all fun c => !Nat.beq c.1 k
def farIn (far:Bool) (W2:W2L) (k o n:Nat):Bool:=!far||(List.range n).all fun d => W2.any fun c => Nat.beq c.1 k&&(Nat.beq c.2.1 0&&Nat.beq c.2.2 (o+d))
theorem zth {K0:List Nat} {fr:Frm} {ρ0:Rho} {W2:W2L} {base res:Nat} {ρ:Rho} {y:Y} {s:St} (hR:RY K0 fr ρ0 W2 base res ρ y s) {dr:Bool} {k κ:Nat} (hn:nOk dr y.nw k=true) (hd:dr=true)
  (hs:(lkO y.h k).isSome=true) (e:ρ k=some κ):κ<base:=by
 subst hd
 exact hR.nw k κ hs (by simpa [nOk] using hn) e
mutual
def cl:FV→Bool
 | .func _ cs => clL cs
 | .iface _ v => cl v
 | .agg cs => clL cs
 | .tup cs => clL cs
 | .undef => false | .hole => false | .nils => false
 | .bool _ => true | .int _ _ => true | .str _ => true | .nilp => true | .nilf => true | .nili => true | .nilm => true | .sv _ _ => true | .fp _ => true | .err _ _ => true | .pt _ => true
def clL:List FV→Bool
 | [] => true
 | v :: l => cl v&&clL l
end
mutual
theorem zmx:∀ v:FV,cl v=true→RD v (toA v)
 | .func f cs,h => by
  have:=clL_sound cs h
  simp only [toA]; exact .func f cs _ this.1 this.2
 | .iface c v,h => .iface c v _ (zmx v h)
 | .agg cs,h => by
  have:=clL_sound cs h
  simp only [toA]; exact .agg cs _ this.1 this.2
 | .tup cs,h => by
  have:=clL_sound cs h
  simp only [toA]; exact .tup cs _ this.1 this.2
 | .undef,h => by cases h
 | .hole,h => by cases h
 | .nils,h => by cases h
 | .bool _,_ => .c _ rfl
 | .int _ _,_ => .c _ rfl
 | .str _,_ => .c _ rfl
 | .nilp,_ => .c _ rfl
 | .nilf,_ => .c _ rfl
 | .nili,_ => .c _ rfl
 | .nilm,_ => .c _ rfl
 | .sv _ _,_ => .c _ rfl
 | .fp _,_ => .c _ rfl
 | .err _ _,_ => .c _ rfl
 | .pt _,_ => .c _ rfl
theorem clL_sound:∀ l:List FV,clL l=true→RDs l (toAL l)
 | [],_ => .nil
 | v :: l,h => by
  simp only [clL,Bool.and_eq_true] at h
  exact .cons (zmx v h.1) (clL_sound l h.2)
end
def ldL (dr:Bool) (W2:W2L) (far:Bool) (ag:Bool) (n:Nat) (y:Y):LV→Option (LV×List Prop)
 | .p k o => match lkO y.h k with
  | some (.st _ cs) => bif Nat.ble n (cs.drop o).length&&(nOk dr y.nw k&&(!dr||farOkB far W2 k o n)) then (mkL ag ((cs.drop o).take n)).map fun v => (v,[]) else none
  | _ => none
 | .ep k i o => match lkO y.h k with
  | some (.sl _ _ n' f) => bif Nat.ble n ((f i).drop o).length&&(nOk dr y.nw k&&(!dr||farNot far W2 k)) then (mkL ag ((((f i).drop o).take n).map .d)).map fun v => (v,[i<n']) else none
  | _ => none
 | .d (.fp cs) => bif Nat.ble n cs.length&&clL (cs.take n) then (mkL ag ((cs.take n).map .d)).map fun v => (v,[]) else none
 | _ => none
section
variable {K0:List Nat} {fr:Frm} {ρ0:Rho} {W2:W2L} {base res:Nat} {ρ:Rho} {y:Y} {s:St}
theorem zyw {k:Nat} {ro:Bool} {cs:List LV} (hR:RY K0 fr ρ0 W2 base res ρ y s) (h:lkO y.h k=some (.st ro cs)):∃ κ cs',ρ k=some κ∧s.h κ=some (.row ro cs.length [cs'])∧RLs ρ cs cs':=hR.r.o k _ h
theorem zdC {a b:Nat}:Nat.blt a b=true↔a<b:=by
 unfold Nat.blt; rw [Nat.ble_eq]; exact Iff.rfl
theorem ldL_sound (hR:RY K0 fr ρ0 W2 base res ρ y s) {dr ag:Bool} {c n:Nat} {v:LV} {a:AV} (ra:RL ρ v a) {lv:LV} {cs:List Prop} (hl:ldL dr W2 (far c) ag n y v=some (lv,cs)) (hc:AllP cs) :
  ∃ av,aload s.h ag n a=some av∧RL ρ lv av∧(dr=true→klt base a∧(far c=true→cellsOut (Wof W2 ρ0) n a)):=by
 cases v with
 | p k o => 
  simp only [ldL] at hl
  split at hl
  ·rename_i ro cells ho
   rw [Bool.cond_eq_ite] at hl
   split at hl
   ·rename_i hb
    simp only [Bool.and_eq_true,Bool.or_eq_true,Bool.not_eq_true',Nat.ble_eq] at hb
    obtain ⟨h1,h2,h3⟩:=hb
    obtain ⟨v',hv',e⟩:=Option.map_eq_some_iff.1 hl
    simp only [Prod.mk.injEq] at e
    obtain ⟨rfl,rfl⟩:=e
    obtain ⟨κ,hρ,rfl⟩:=rl_p ra
    obtain ⟨κ',cs',g1,g2,g3⟩:=zyw hR ho
    obtain rfl:κ'=κ:=by rw [hρ] at g1; exact (Option.some.inj g1).symm
    obtain ⟨av,q1,q2⟩:=mkL_sound ((g3.drop o).take n) hv'
    refine ⟨av,?_,q2,fun hd => ⟨zth hR h2 hd (by rw [ho]; rfl) hρ,fun hf => ?_⟩⟩
    ·have hlen:n≤(cs'.drop o).length:=by rw [(g3.drop o).1]; exact h1
     simp only [aload,pcells,g2,List.length_singleton,Nat.zero_lt_one,if_true,List.getD_cons_zero]
     rw [if_pos hlen,q1]
    ·intro q hq1 hq2
     rintro ⟨k',hm,hk'⟩
     subst hd
     simp only [Bool.true_eq_false,false_or] at h3
     have hkk:k'=k:=by
      have w1:=hR.wk _ hm
      exact hR.r.inj k' k κ' w1.1 (by rw [ho]; rfl) (by rw [w1.2]; exact hk') hρ
     subst hkk
     simp only [farOkB,hf,Bool.not_true,Bool.false_or,List.all_eq_true] at h3
     have:=h3 _ hm
     simp only [beqT,Bool.true_and,Bool.not_eq_true',Bool.and_eq_false_iff] at this
     rcases this with h | h
     ·have:Nat.ble o q=true:=by rw [Nat.ble_eq]; exact hq1
      rw [this] at h; cases h
     ·have:Nat.blt q (o+n)=true:=zdC.2 hq2
      rw [this] at h; cases h
   ·cases hl
  ·cases hl
 | ep k i o => 
  simp only [ldL] at hl
  split at hl
  ·rename_i ro esz n' f ho
   rw [Bool.cond_eq_ite] at hl
   split at hl
   ·rename_i hb
    simp only [Bool.and_eq_true,Bool.or_eq_true,Bool.not_eq_true',Nat.ble_eq] at hb
    obtain ⟨h1,h2,h3⟩:=hb
    obtain ⟨v',hv',e⟩:=Option.map_eq_some_iff.1 hl
    simp only [Prod.mk.injEq] at e
    obtain ⟨rfl,rfl⟩:=e
    obtain ⟨hi,_⟩:=hc
    obtain ⟨κ,hρ,rfl⟩:=zwd ra
    rcases hR.r.o k _ ho with ⟨κ',es,g1,g2,g3,g4⟩ | ⟨g1,_⟩
    ·obtain rfl:κ'=κ:=by rw [hρ] at g1; exact (Option.some.inj g1).symm
     have g5:=g4 i hi
     have g6:RLs ρ ((((f i).drop o).take n).map .d) (((es.getD i []).drop o).take n):=PW.mapl LV.d ((g5.drop o).take n) (fun a b h => .d _ _ h)
     obtain ⟨av,q1,q2⟩:=mkL_sound g6 hv'
     refine ⟨av,?_,q2,fun hd => ⟨zth hR h2 hd (by rw [ho]; rfl) hρ,fun hf => ?_⟩⟩
     ·have hlen:n≤((es.getD i []).drop o).length:=by rw [(g5.drop o).1]; exact h1
      simp only [aload,pcells,g2]
      rw [if_pos (by omega)]
      simp only
      rw [if_pos hlen,q1]
     ·intro q hq1 hq2
      rintro ⟨k',hm,hk'⟩
      subst hd
      simp only [Bool.true_eq_false,false_or] at h3
      have hkk:k'=k:=by
       have w1:=hR.wk _ hm
       exact hR.r.inj k' k κ' w1.1 (by rw [ho]; rfl) (by rw [w1.2]; exact hk') hρ
      subst hkk
      simp only [farNot,hf,Bool.not_true,Bool.false_or,List.all_eq_true] at h3
      have:=h3 _ hm
      simp [beqT] at this
    ·rw [hρ] at g1; cases g1
   ·cases hl
  ·cases hl
 | d v => 
  cases v with
  | fp cells => 
   simp only [ldL] at hl
   rw [Bool.cond_eq_ite] at hl
   split at hl
   ·rename_i hb
    simp only [Bool.and_eq_true,Nat.ble_eq] at hb
    obtain ⟨v',hv',e⟩:=Option.map_eq_some_iff.1 hl
    simp only [Prod.mk.injEq] at e
    obtain ⟨rfl,rfl⟩:=e
    obtain rfl:=zxw (rl_d ra)
    have g5:=clL_sound _ hb.2
    rw [toAL_map] at g5
    obtain ⟨av,q1,q2⟩:=mkL_sound (PW.mapl (R':=RL ρ) (d':=.undef) LV.d g5 (fun a b h => .d _ _ h)) hv'
    refine ⟨av,?_,q2,fun hd => ⟨trivial,fun _ => trivial⟩⟩
    simp only [aload,pcells,List.length_map]
    rw [if_pos hb.1,← q1,List.map_take]
   ·cases hl
  | _ => simp [ldL] at hl
 | _ => simp [ldL] at hl
end
def mxI (a b:Int):Int:=if b>a then b else a
def mnI (a b:Int):Int:=if b<a then b else a
def btS (s:ByteArray) (i:Int):Int:=match s[i.toNat]? with | some b => (b.toNat:Int) | none => 0
def aintF (op:BinOp) (k:IntKind) (x y:Int):Option (FV×List Prop):=
 match op with
 | .add => some (.int k (k.wrap (x+y)),[])
 | .sub => some (.int k (k.wrap (x - y)),[])
 | .mul => some (.int k (k.wrap (x * y)),[])
 | .quo => some (.int k (k.wrap (x.tdiv y)),[y≠0])
 | .rem => some (.int k (x.tmod y),[y≠0])
 | .and => some (.int k (k.wrap (BitVec.ofInt k.bits x &&& BitVec.ofInt k.bits y).toNat),[])
 | .or => some (.int k (k.wrap (BitVec.ofInt k.bits x ||| BitVec.ofInt k.bits y).toNat),[])
 | .xor => some (.int k (k.wrap (BitVec.ofInt k.bits x ^^^ BitVec.ofInt k.bits y).toNat),[])
 | .andNot => some (.int k (k.wrap (BitVec.ofInt k.bits x &&& ~~~(BitVec.ofInt k.bits y)).toNat),[])
 | .eql => some (.bool (x==y),[])
 | .neq => some (.bool (x != y),[])
 | .lss => some (.bool (decide (x<y)),[])
 | .leq => some (.bool (decide (x≤y)),[])
 | .gtr => some (.bool (decide (x>y)),[])
 | .geq => some (.bool (decide (x≥y)),[])
 | _ => none
theorem aintF_sound {op:BinOp} {k:IntKind} {x y:Int} {v:FV} {c:List Prop} (h:aintF op k x y=some (v,c)) (hc:AllP c):aint op k x y=some (toA v)∧isH v=true:=by
 cases op <;> simp only [aintF,Option.some.injEq,Prod.mk.injEq,reduceCtorEq] at h <;> obtain ⟨rfl,rfl⟩:=h <;> first | exact ⟨rfl,rfl⟩ | skip
 ·exact ⟨by simp only [aint]; rw [if_neg hc.1]; rfl,rfl⟩
 ·exact ⟨by simp only [aint]; rw [if_neg hc.1]; rfl,rfl⟩
def ashiftF (op:BinOp) (k:IntKind) (x y:Int):Option (FV×List Prop):=
 match op with
 | .shl => some (.int k (k.wrap (x * 2 ^ (min y.toNat k.bits))),[¬ y<0])
 | .shr => some (.int k (x.fdiv (2 ^ (min y.toNat k.bits))),[¬ y<0])
 | _ => none
theorem ashiftF_sound {op:BinOp} {k:IntKind} {x y:Int} {v:FV} {c:List Prop} (h:ashiftF op k x y=some (v,c)) (hc:AllP c):ashift op k x y=some (toA v)∧isH v=true:=by
 cases op <;> simp only [ashiftF,Option.some.injEq,Prod.mk.injEq,reduceCtorEq] at h <;> obtain ⟨rfl,rfl⟩:=h
 ·exact ⟨by simp only [ashift]; rw [if_neg hc.1]; rfl,rfl⟩
 ·exact ⟨by simp only [ashift]; rw [if_neg hc.1]; rfl,rfl⟩
def astrF (op:BinOp) (x y:ByteArray):Option (FV×List Prop):=
 match op with
 | .add => some (.str (x++y),[¬ ((x.size+y.size:Nat):Int)>IntKind.i64.max])
 | .eql => some (.bool (x.data.toList==y.data.toList),[])
 | .neq => some (.bool (!(x.data.toList==y.data.toList)),[])
 | .lss => some (.bool (Op.bytesLess x.data.toList y.data.toList),[])
 | .leq => some (.bool (Op.bytesLess x.data.toList y.data.toList||x.data.toList==y.data.toList),[])
 | .gtr => some (.bool (!(Op.bytesLess x.data.toList y.data.toList||x.data.toList==y.data.toList)),[])
 | .geq => some (.bool (!(Op.bytesLess x.data.toList y.data.toList)),[])
 | _ => none
theorem astrF_sound {op:BinOp} {x y:ByteArray} {v:FV} {c:List Prop} (h:astrF op x y=some (v,c)) (hc:AllP c):astr op x y=some (toA v)∧isH v=true:=by
 cases op <;> simp only [astrF,Option.some.injEq,Prod.mk.injEq,reduceCtorEq] at h <;> obtain ⟨rfl,rfl⟩:=h <;> first | exact ⟨rfl,rfl⟩ | skip
 exact ⟨by simp only [astr]; rw [if_neg hc.1]; rfl,rfl⟩
def eqL (tk:TK) (cst:Bool):LV→LV→Option Bool
 | .d (.bool a),.d (.bool b) => match tk with | .bool => some (a==b) | _ => none
 | .d .nili,.d .nili => match tk with | .iface => bif cst then some true else none | _ => none
 | .d (.iface _ _),.d .nili => match tk with | .iface => some false | _ => none
 | .d .nili,.d (.iface _ _) => match tk with | .iface => some false | _ => none
 | .d (.err _ e),.d .nili => match tk with | .iface => bif cst then some e.isNone else none | _ => none
 | .d .nili,.d (.err _ e) => match tk with | .iface => bif cst then some e.isNone else none | _ => none
 | .d .nilp,.d .nilp => match tk with | .ptr => some true | _ => none
 | .d .nilp,.p _ _ => match tk with | .ptr => some false | _ => none
 | .p _ _,.d .nilp => match tk with | .ptr => some false | _ => none
 | .d .nilp,.ep _ _ _ => match tk with | .ptr => some false | _ => none
 | .ep _ _ _,.d .nilp => match tk with | .ptr => some false | _ => none
 | _,_ => none
theorem zmT {a:AV} (h:RD .nili a):a=.nili:=by cases h; rfl
theorem zxQ {c:Nat} {e:Option Int} {a:AV} (h:RD (.err c e) a):a=toA (.err c e):=by cases h; rfl
theorem zmS {a:AV} (h:RD .nilp a):a=.nilp:=by cases h; rfl
theorem eqL_sound {ρ:Rho} {tk:TK} {cst:Bool} {x y:LV} {a b:AV} (ra:RL ρ x a) (rb:RL ρ y b) {r:Bool} (h:eqL tk cst x y=some r):aeq tk cst a b=some r∧(∀ k n,a≠.int k n)∧∀ s,a≠.str s:=by
 unfold eqL at h
 split at h
 ·obtain rfl:=zkk (rl_d ra); obtain rfl:=zkk (rl_d rb)
  split at h <;> first | (cases h; done) | exact ⟨h,by simp,by simp⟩
 ·obtain rfl:=zmT (rl_d ra); obtain rfl:=zmT (rl_d rb)
  split at h <;> first | (cases h; done) | skip
  refine ⟨?_,by simp,by simp⟩
  cases cst <;> simp_all [aeq]
 ·obtain ⟨_,rfl,_⟩:=zmr (rl_d ra); obtain rfl:=zmT (rl_d rb)
  split at h <;> first | (cases h; done) | exact ⟨h,by simp,by simp⟩
 ·obtain rfl:=zmT (rl_d ra); obtain ⟨_,rfl,_⟩:=zmr (rl_d rb)
  split at h <;> first | (cases h; done) | exact ⟨h,by simp,by simp⟩
 ·obtain rfl:=zxQ (rl_d ra); obtain rfl:=zmT (rl_d rb)
  rename_i e
  split at h <;> first | (cases h; done) | skip
  cases e <;> cases cst <;> simp_all [aeq,toA]
 ·obtain rfl:=zmT (rl_d ra); obtain rfl:=zxQ (rl_d rb)
  rename_i e
  split at h <;> first | (cases h; done) | skip
  cases e <;> cases cst <;> simp_all [aeq,toA]
 ·obtain rfl:=zmS (rl_d ra); obtain rfl:=zmS (rl_d rb)
  split at h <;> first | (cases h; done) | exact ⟨h,by simp,by simp⟩
 ·obtain rfl:=zmS (rl_d ra); obtain ⟨_,_,rfl⟩:=rl_p rb
  split at h <;> first | (cases h; done) | exact ⟨h,by simp,by simp⟩
 ·obtain ⟨_,_,rfl⟩:=rl_p ra; obtain rfl:=zmS (rl_d rb)
  split at h <;> first | (cases h; done) | exact ⟨h,by simp,by simp⟩
 ·obtain rfl:=zmS (rl_d ra); obtain ⟨_,_,rfl⟩:=zwd rb
  split at h <;> first | (cases h; done) | exact ⟨h,by simp,by simp⟩
 ·obtain ⟨_,_,rfl⟩:=zwd ra; obtain rfl:=zmS (rl_d rb)
  split at h <;> first | (cases h; done) | exact ⟨h,by simp,by simp⟩
 ·cases h
def abinL (op:BinOp) (tk:TK) (cst:Bool) (x y:LV):Option (FV×List Prop):=
 match x,y with
 | .d (.int k a),.d (.int k' b) => 
  match op with
  | .shl => ashiftF .shl k a b
  | .shr => ashiftF .shr k a b
  | op => if k=k' then aintF op k a b else none
 | .d (.str a),.d (.str b) => astrF op a b
 | x,y => 
  match op with
  | .eql => (eqL tk cst x y).map fun b => (.bool b,[])
  | .neq => (eqL tk cst x y).map fun b => (.bool (!b),[])
  | _ => none
theorem zxi {op:BinOp} {tk:TK} {cst:Bool} {a b:AV} (h1:∀ k n,a≠.int k n) (h2:∀ s,a≠.str s):abin op tk cst a b=(match op with
  | .eql => (aeq tk cst a b).map .bool
  | .neq => (aeq tk cst a b).map fun b => .bool (!b)
  | _ => none):=by
 unfold abin
 cases a <;> first | rfl | (exact absurd rfl (h1 _ _)) | (exact absurd rfl (h2 _))
theorem abinL_sound {ρ:Rho} {op:BinOp} {tk:TK} {cst:Bool} {x y:LV} {a b:AV} (ra:RL ρ x a) (rb:RL ρ y b) {v:FV} {c:List Prop} (h:abinL op tk cst x y=some (v,c)) (hc:AllP c) :
  abin op tk cst a b=some (toA v)∧isH v=true:=by
 unfold abinL at h
 split at h
 ·obtain rfl:=zgJ (rl_d ra); obtain rfl:=zgJ (rl_d rb)
  split at h
  ·exact ashiftF_sound h hc
  ·exact ashiftF_sound h hc
  ·split at h
   ·rename_i hk
    have:=aintF_sound h hc
    cases op <;> first | (simp [aintF] at h; done) | skip
    all_goals (simp only [abin]; rw [if_pos hk]; exact this)
   ·cases h
 ·obtain rfl:=zuq (rl_d ra); obtain rfl:=zuq (rl_d rb)
  exact astrF_sound h hc
 ·split at h
  ·obtain ⟨r,hr,e⟩:=Option.map_eq_some_iff.1 h
   simp only [Prod.mk.injEq] at e
   obtain ⟨rfl,rfl⟩:=e
   obtain ⟨k1,k2,k3⟩:=eqL_sound ra rb hr
   rw [zxi k2 k3]
   exact ⟨by simp only [k1]; rfl,rfl⟩
  ·obtain ⟨r,hr,e⟩:=Option.map_eq_some_iff.1 h
   simp only [Prod.mk.injEq] at e
   obtain ⟨rfl,rfl⟩:=e
   obtain ⟨k1,k2,k3⟩:=eqL_sound ra rb hr
   rw [zxi k2 k3]
   exact ⟨by simp only [k1]; rfl,rfl⟩
  ·cases h
def aunF (op:UnOp):LV→Option FV
 | .d (.int k n) => match op with
  | .neg => some (.int k (k.wrap (0 - n)))
  | .xor => some (.int k (k.wrap (BitVec.ofInt k.bits (if k.signed then -1 else k.max) ^^^ BitVec.ofInt k.bits n).toNat))
  | _ => none
 | .d (.bool b) => match op with
  | .not => some (.bool (!b))
  | _ => none
 | _ => none
theorem aunF_sound {ρ:Rho} {op:UnOp} {x:LV} {a:AV} (ra:RL ρ x a) {v:FV} (h:aunF op x=some v):aun op a=some (toA v)∧isH v=true:=by
 unfold aunF at h
 split at h
 ·obtain rfl:=zgJ (rl_d ra)
  split at h
  ·obtain rfl:=Option.some.inj h; exact ⟨rfl,rfl⟩
  ·obtain rfl:=Option.some.inj h; exact ⟨rfl,rfl⟩
  ·cases h
 ·obtain rfl:=zkk (rl_d ra)
  split at h
  ·obtain rfl:=Option.some.inj h; exact ⟨rfl,rfl⟩
  ·cases h
 ·cases h
def nilOk:LV→Bool
 | .p _ _ | .ep _ _ _ | .d (.fp _) | .func _ _ | .d (.func _ _) | .d (.iface _ _) => true
 | _ => false
theorem nilOk_sound {ρ:Rho} {x:LV} {a:AV} (ra:RL ρ x a) (h:nilOk x=true):notNil a=true:=by
 cases x with
 | p => obtain ⟨_,_,rfl⟩:=rl_p ra; rfl
 | ep => obtain ⟨_,_,rfl⟩:=zwd ra; rfl
 | func => obtain ⟨_,rfl,_⟩:=zuY ra; rfl
 | d v => 
  cases v with
  | fp => obtain rfl:=zxw (rl_d ra); rfl
  | func => obtain ⟨_,rfl,_⟩:=ztu (rl_d ra); rfl
  | iface => obtain ⟨_,rfl,_⟩:=zmr (rl_d ra); rfl
  | _ => cases h
 | _ => cases h
def addN:Nat→Nat→Nat
 | 0,b => b
 | a+1,b => (a+1)+b
theorem addN_eq (a b:Nat):addN a b=a+b:=by cases a <;> simp [addN]
def iaL (dr:Bool) (esz:Nat) (y:Y):LV→LV→Option (LV×List Prop)
 | .ls k lo m,.d (.int _ i) => match lkO y.h k with
  | some (.sl _ e n _) => bif Nat.beq e esz&&nOk dr y.nw k then some (.ep k (addN lo i.toNat) 0,[0≤i∧i<m,addN lo i.toNat<n]) else none
  | _ => none
 | .d (.sv m f),.d (.int _ i) => bif Nat.beq (f i.toNat).length esz then some (.d (.fp (f i.toNat)),[0≤i∧i<m]) else none
 | _,_ => none
section
variable {K0:List Nat} {fr:Frm} {ρ0:Rho} {W2:W2L} {base res:Nat} {ρ:Rho} {y:Y} {s:St}
theorem iaL_sound (hR:RY K0 fr ρ0 W2 base res ρ y s) {dr:Bool} {esz:Nat} {x i:LV} {a b:AV} (ra:RL ρ x a) (rb:RL ρ i b) {lv:LV} {c:List Prop} (h:iaL dr esz y x i=some (lv,c)) (hc:AllP c) :
  ∃ av,aiaddr s.h esz a b=some av∧RL ρ lv av∧(dr=true→klt base a):=by
 unfold iaL at h
 split at h
 ·rename_i k lo m k' i'
  obtain rfl:=zgJ (rl_d rb)
  split at h
  ·rename_i ro e n f ho
   rw [Bool.cond_eq_ite] at h
   split at h
   ·rename_i hb
    simp only [Bool.and_eq_true,Nat.beq_eq] at hb
    obtain ⟨rfl,hn⟩:=hb
    simp only [Option.some.injEq,Prod.mk.injEq] at h
    obtain ⟨rfl,rfl⟩:=h
    obtain ⟨⟨c1,c2⟩,c3,_⟩:=hc
    rw [addN_eq] at c3
    rcases zwc ra with ⟨κ,hρ,rfl⟩ | ⟨_,rfl,_⟩
    ·rcases hR.r.o k _ ho with ⟨κ',es,g1,g2,g3,g4⟩ | ⟨g1,_⟩
     ·obtain rfl:κ'=κ:=by rw [hρ] at g1; exact (Option.some.inj g1).symm
      refine ⟨.ptr κ' (lo+i'.toNat) 0,?_,by rw [addN_eq]; exact .ep _ _ _ _ hρ,fun hd => zth hR hn hd (by rw [ho]; rfl) hρ⟩
      simp only [aiaddr,g2]
      rw [if_pos ⟨c1,c2,by omega,trivial⟩]
     ·rw [hρ] at g1; cases g1
    ·omega
   ·cases h
  ·cases h
 ·rename_i m f k' i'
  obtain rfl:=zgJ (rl_d rb)
  rw [Bool.cond_eq_ite] at h
  split at h
  ·rename_i hb
   rw [Nat.beq_eq] at hb
   simp only [Option.some.injEq,Prod.mk.injEq] at h
   obtain ⟨rfl,rfl⟩:=h
   obtain ⟨⟨c1,c2⟩,_⟩:=hc
   rcases zva (rl_d ra) with rfl | ⟨rfl,rfl⟩
   ·have hi:i'.toNat<m:=by omega
    have e1:((List.range m).map fun i => (f i).map toA).getD i'.toNat []=(f i'.toNat).map toA:=by simp [List.getD_eq_getElem?_getD,hi]
    refine ⟨.fptr ((f i'.toNat).map toA),?_,.d _ _ ?_,fun _ => trivial⟩
    ·simp only [aiaddr,List.length_map,List.length_range]
     rw [e1,if_pos ⟨c1,c2,by rw [List.length_map]; exact hb⟩]
    ·have:=RD.c (.fp (f i'.toNat)) rfl
     simpa [toA,toAL_map] using this
   ·omega
  ·cases h
 ·cases h
def bndF (d:Int):Option LV→Option Int
 | none => some d
 | some (.d (.int _ n)) => some n
 | some _ => none
theorem bndF_sound {d:Int} {t:List (Nat×LV)} {u:Nat→AV} (ht:∀ i,RL ρ (lkT t i) (u i)) {x:Option AX} {n:Int} (h:bndF d (x.map (evL t))=some n):ixOr d (x.map (evX u))=some n:=by
 cases x with
 | none => exact h
 | some x => 
  simp only [Option.map_some,bndF] at h ⊢
  have:=evL_sound ht x
  revert h this
  cases evL t x <;> intro h this <;> first | (simp at h; done) | skip
  rename_i v
  cases v <;> first | (simp at h; done) | skip
  obtain hh:=zgJ (rl_d this)
  rw [hh]; exact h
def slL (dr:Bool) (esz:Nat) (y:Y) (n2:Nat) (f2:Nat→List FV) (x:LV) (lo hi:Option LV):Option (LV×List Prop):=
 match x with
 | .ls k b m => match lkO y.h k with
  | some (.sl _ e _ _) => match bndF m hi,bndF 0 lo with
   | some g,some l => bif Nat.beq e esz&&nOk dr y.nw k then some (.ls k (addN b l.toNat) n2,[0≤l∧l≤g∧g≤m,n2=g.toNat - l.toNat]) else none
   | _,_ => none
  | _ => none
 | .d (.sv m f) => match bndF m hi,bndF 0 lo with
   | some g,some l => some (.d (.sv n2 f2),[0≤l∧l≤g∧g≤m,n2=g.toNat - l.toNat,∀ i,i<m→(f i).length=esz,∀ i,i<n2→f2 i=f (l.toNat+i)])
   | _,_ => none
 | .d .nils => match bndF 0 hi,bndF 0 lo with
   | some g,some l => some (.d .nils,[l=0∧g=0])
   | _,_ => none
 | _ => none
theorem slL_sound (hR:RY K0 fr ρ0 W2 base res ρ y s) {dr:Bool} {esz n2:Nat} {f2:Nat→List FV} {x:LV} {a:AV} (ra:RL ρ x a) {lo hi:Option AX} {lv:LV} {c:List Prop}
  (h:slL dr esz y n2 f2 x (lo.map (evL y.t)) (hi.map (evL y.t))=some (lv,c)) (hc:AllP c) :
  ∃ av,aslc s.h esz a (lo.map (evX s.t)) (hi.map (evX s.t))=some av∧RL ρ lv av∧(dr=true→klt base a):=by
 unfold slL at h
 split at h
 ·rename_i k b m
  split at h
  ·rename_i ro e n f ho
   split at h
   ·rename_i g l hg hl
    rw [Bool.cond_eq_ite] at h
    split at h
    ·rename_i hb
     simp only [Bool.and_eq_true,Nat.beq_eq] at hb
     obtain ⟨rfl,hn⟩:=hb
     simp only [Option.some.injEq,Prod.mk.injEq] at h
     obtain ⟨rfl,rfl⟩:=h
     obtain ⟨⟨c1,c2,c3⟩,c4,_⟩:=hc
     have eg:=bndF_sound hR.r.t hg
     have el:=bndF_sound hR.r.t hl
     rcases zwc ra with ⟨κ,hρ,rfl⟩ | ⟨hρ,rfl,rfl⟩
     ·rcases hR.r.o k _ ho with ⟨κ',es,g1,g2,g3,g4⟩ | ⟨g1,_⟩
      ·obtain rfl:κ'=κ:=by rw [hρ] at g1; exact (Option.some.inj g1).symm
       refine ⟨.sl κ' (b+l.toNat) (g.toNat - l.toNat),?_,by rw [addN_eq,c4]; exact .ls _ _ _ _ hρ,fun hd => zth hR hn hd (by rw [ho]; rfl) hρ⟩
       simp only [aslc,eg,el,g2]
       rw [if_pos ⟨c1,c2,c3,trivial⟩]
      ·rw [hρ] at g1; cases g1
     ·have h1:l=0:=by omega
      have h2:g=0:=by omega
      subst h1 h2
      refine ⟨.nils,?_,?_,fun _ => trivial⟩
      ·have eg':ixOr 0 (hi.map (evX s.t))=some 0:=by simpa using eg
       simp only [aslc,eg',el]; rfl
      ·have:n2=0:=by rw [c4]; rfl
       rw [this]; exact .ls0 _ _ hρ
    ·cases h
   ·cases h
  ·cases h
 ·rename_i m f
  split at h
  ·rename_i g l hg hl
   simp only [Option.some.injEq,Prod.mk.injEq] at h
   obtain ⟨rfl,rfl⟩:=h
   obtain ⟨⟨c1,c2,c3⟩,c4,c5,c6,_⟩:=hc
   have eg:=bndF_sound hR.r.t hg
   have el:=bndF_sound hR.r.t hl
   rcases zva (rl_d ra) with rfl | ⟨rfl,rfl⟩
   ·refine ⟨.slv ((((List.range m).map fun i => (f i).map toA).drop l.toNat).take (g.toNat - l.toNat)),?_,.d _ _ ?_,fun _ => trivial⟩
    ·simp only [aslc,List.length_map,List.length_range,eg,el]
     rw [if_pos]
     refine ⟨c1,c2,c3,?_⟩
     rw [List.all_eq_true]
     intro z hz
     obtain ⟨i,hi,rfl⟩:=List.mem_map.1 hz
     have:=c5 i (List.mem_range.1 hi)
     simp [this]
    ·have:=RD.c (.sv n2 f2) rfl
     have e:toA (.sv n2 f2)=.slv ((((List.range m).map fun i => (f i).map toA).drop l.toNat).take (g.toNat - l.toNat)):=by
      simp only [toA,toAL_map,AV.slv.injEq]
      apply List.ext_getElem
      ·simp; omega
      ·intro i h1 h2
       have hi:i<n2:=by simpa using h1
       simp [c6 i hi]
     rw [e] at this; exact this
   ·have h1:l=0:=by omega
    have h2:g=0:=by omega
    subst h1 h2
    have eg':ixOr 0 (hi.map (evX s.t))=some 0:=by simpa using eg
    refine ⟨.nils,?_,?_,fun _ => trivial⟩
    ·simp only [aslc,eg',el]; rfl
    ·have:n2=0:=by rw [c4]; rfl
     rw [this]; exact .d _ _ (.sv0 _)
  ·cases h
 ·split at h
  ·rename_i g l hg hl
   simp only [Option.some.injEq,Prod.mk.injEq] at h
   obtain ⟨rfl,rfl⟩:=h
   obtain ⟨⟨rfl,rfl⟩,_⟩:=hc
   have eg:=bndF_sound hR.r.t hg
   have el:=bndF_sound hR.r.t hl
   obtain rfl:=zfc (rl_d ra)
   exact ⟨.nils,by simp only [aslc,eg,el]; rfl,.d _ _ .nils,fun _ => trivial⟩
  ·cases h
 ·cases h
def lenL:LV→Option Nat
 | .d .nils => some 0
 | .d (.sv n _) => some n
 | .ls _ _ n => some n
 | _ => none
theorem lenL_sound {x:LV} {a:AV} (ra:RL ρ x a) {n:Nat} (h:lenL x=some n):(match a with
  | .nils => some ((.int .i64 0:AV),s.h)
  | .sl _ _ n => some (.int .i64 n,s.h)
  | .slv es => some (.int .i64 es.length,s.h)
  | _ => none)=some (.int .i64 n,s.h):=by
 unfold lenL at h
 split at h
 ·obtain rfl:=zfc (rl_d ra); cases h; rfl
 ·cases h
  rcases zva (rl_d ra) with rfl | ⟨rfl,rfl⟩
  ·simp
  ·rfl
 ·cases h
  rcases zwc ra with ⟨κ,_,rfl⟩ | ⟨_,rfl,rfl⟩
  ·rfl
  ·rfl
 ·cases h
def fillL (cs:List LV):List (Nat×Nat×LV)→Option (List LV)
 | [] => some cs
 | (off,sz,v) :: r => bif Nat.beq (cellsV v).length sz&&(Nat.ble (off+sz) cs.length&&stoV v) then fillL (spl cs off (cellsV v)) r else none
theorem fillL_sound {t:List (Nat×LV)} {u:Nat→AV} (ht:∀ i,RL ρ (lkT t i) (u i)):∀ (ps:List (Nat×Nat×Nat×AX)) {cs:List LV} {cs':List AV},RLs ρ cs cs'→∀ {r:List LV},
  fillL cs (ps.map fun p => (p.2.1,p.2.2.1,evL t p.2.2.2))=some r→∃ r',afill cs' (ps.map fun p => (p.2.1,p.2.2.1,evX u p.2.2.2))=some r'∧RLs ρ r r'
 | [],cs,cs',hr,r,h => by obtain rfl:=Option.some.inj h; exact ⟨cs',rfl,hr⟩
 | p :: ps,cs,cs',hr,r,h => by
  simp only [List.map_cons,fillL] at h
  rw [Bool.cond_eq_ite] at h
  split at h
  ·rename_i hb
   simp only [Bool.and_eq_true,Nat.beq_eq,Nat.ble_eq] at hb
   obtain ⟨h1,h2,h3⟩:=hb
   obtain ⟨k1,k2⟩:=cellsV_sound (evL_sound ht p.2.2.2) h3
   obtain ⟨r',q1,q2⟩:=fillL_sound ht ps (cs':=splice cs' p.2.1 (cellsL (evX u p.2.2.2))) (PW.spl hr k1 p.2.1) h
   refine ⟨r',?_,q2⟩
   simp only [List.map_cons,afill]
   rw [if_pos ⟨by rw [k1.1]; exact h1,by rw [hr.1]; exact h2,k2⟩]
   exact q1
  ·cases h
end
mutual
def depF:FV→Nat
 | .func _ cs => depFL cs+1
 | .iface _ v => depF v+1
 | .agg cs => depFL cs+1
 | .tup cs => depFL cs+1
 | .undef => 0 | .hole => 0 | .nils => 0
 | .bool _ => 0 | .int _ _ => 0 | .str _ => 0 | .nilp => 0 | .nilf => 0 | .nili => 0 | .nilm => 0 | .sv _ _ => 0 | .fp _ => 0 | .err _ _ => 1 | .pt _ => 0
def depFL:List FV→Nat
 | [] => 0
 | v :: l => max (depF v) (depFL l)
end
theorem depFL_le {l:List FV} {v:FV} (h:v∈l):depF v≤depFL l:=by
 induction l with
 | nil => cases h
 | cons a l ih => 
  simp only [depFL]
  rcases List.mem_cons.1 h with rfl | h
  ·omega
  ·have:=ih h; omega
theorem mapM_of {α γ:Type} {f:α→Option γ}:∀ {l:List α} {r:List γ},r.length=l.length→(∀ (i:Nat) (a:α) (b:γ),l[i]? = some a→r[i]? = some b→f a=some b)→l.mapM f=some r
 | [],r,hl,_ => by
  have:r=[]:=List.eq_nil_of_length_eq_zero (by simpa using hl)
  subst this; rfl
 | a :: l,r,hl,h => by
  cases r with
  | nil => simp at hl
  | cons b r => 
   have h0:=h 0 a b rfl rfl
   have:=mapM_of (l:=l) (r:=r) (f:=f) (by simpa using hl) (fun i x y hx hy => h (i+1) x y (by simpa using hx) (by simpa using hy))
   simp [List.mapM_cons,h0,this]
theorem ztv {R:FV→AV→Prop} {f:AV→Option AV} {cs:List FV} {cs':List AV} (h:PW R .undef .undef cs cs') (hf:∀ v a,v∈cs→R v a→f a=some (toA v)):cs'.mapM f=some (toAL cs):=by
 rw [toAL_map]
 refine mapM_of (by simp [h.1]) fun i a b ha hb => ?_
 have hi:i<cs.length:=by
  have:=(List.getElem?_eq_some_iff.1 ha).1
  rw [h.1] at this; exact this
 have hr:=h.2 i hi
 have e1:cs'.getD i .undef=a:=by rw [List.getD_eq_getElem?_getD,ha]; rfl
 have e2:cs.getD i .undef=cs[i]:=by simp [List.getD_eq_getElem?_getD,hi]
 rw [e1,e2] at hr
 rw [hf cs[i] a (List.getElem_mem hi) hr]
 simp only [List.getElem?_map,List.getElem?_eq_getElem hi,Option.map_some] at hb
 exact hb
theorem frzRD {hp:Hp}:∀ {v:FV} {a:AV},RD v a→∀ F,depF v<F→frz hp F a=some (toA v)∧frzK hp F a=[]:=by
 intro v a r
 induction r with
 | c v h => 
  intro F hF
  cases F with
  | zero => omega
  | succ F => 
   cases v with
   | err c e => 
    cases e with
    | none => exact ⟨rfl,rfl⟩
    | some n => 
     cases F with
     | zero => simp [depF] at hF
     | succ F => exact ⟨rfl,rfl⟩
   | pt o => cases o <;> exact ⟨rfl,rfl⟩
   | _ => first | (cases h; done) | exact ⟨rfl,rfl⟩
 | sv0 f => 
  intro F hF
  cases F with
  | zero => omega
  | succ F => exact ⟨rfl,rfl⟩
 | nils => 
  intro F hF
  cases F with
  | zero => omega
  | succ F => exact ⟨rfl,rfl⟩
 | iface c v a h ih => 
  intro F hF
  cases F with
  | zero => omega
  | succ F => 
   have:=ih F (by simp only [depF] at hF; omega)
   exact ⟨by simp only [frz,this.1]; rfl,by simp only [frzK,this.2]⟩
 | func f cs cs' hl hc ih => 
  intro F hF
  cases F with
  | zero => omega
  | succ F => 
   have key:PW (fun v a => frz hp F a=some (toA v)∧frzK hp F a=[]) .undef .undef cs cs':=⟨hl,fun i hi => ih i hi F (by
    have:depF (cs.getD i .undef)≤depFL cs:=depFL_le (by rw [List.getD_eq_getElem?_getD,List.getElem?_eq_getElem hi]; exact List.getElem_mem _)
    simp only [depF] at hF; omega)⟩
   refine ⟨by simp only [frz]; rw [ztv key (fun v a _ h => h.1)]; rfl,?_⟩
   simp only [frzK]
   refine flatMap_nil fun x hx => ?_
   obtain ⟨i,hi,rfl⟩:=List.getElem_of_mem hx
   have:=(key.2 i (by rw [← hl]; exact hi)).2
   simpa [List.getD_eq_getElem?_getD,hi] using this
 | agg cs cs' hl hc ih => 
  intro F hF
  cases F with
  | zero => omega
  | succ F => 
   have key:PW (fun v a => frz hp F a=some (toA v)∧frzK hp F a=[]) .undef .undef cs cs':=⟨hl,fun i hi => ih i hi F (by
    have:depF (cs.getD i .undef)≤depFL cs:=depFL_le (by rw [List.getD_eq_getElem?_getD,List.getElem?_eq_getElem hi]; exact List.getElem_mem _)
    simp only [depF] at hF; omega)⟩
   refine ⟨by simp only [frz]; rw [ztv key (fun v a _ h => h.1)]; rfl,?_⟩
   simp only [frzK]
   refine flatMap_nil fun x hx => ?_
   obtain ⟨i,hi,rfl⟩:=List.getElem_of_mem hx
   have:=(key.2 i (by rw [← hl]; exact hi)).2
   simpa [List.getD_eq_getElem?_getD,hi] using this
 | tup cs cs' hl hc ih => 
  intro F hF
  cases F with
  | zero => omega
  | succ F => 
   have key:PW (fun v a => frz hp F a=some (toA v)∧frzK hp F a=[]) .undef .undef cs cs':=⟨hl,fun i hi => ih i hi F (by
    have:depF (cs.getD i .undef)≤depFL cs:=depFL_le (by rw [List.getD_eq_getElem?_getD,List.getElem?_eq_getElem hi]; exact List.getElem_mem _)
    simp only [depF] at hF; omega)⟩
   refine ⟨by simp only [frz]; rw [ztv key (fun v a _ h => h.1)]; rfl,?_⟩
   simp only [frzK]
   refine flatMap_nil fun x hx => ?_
   obtain ⟨i,hi,rfl⟩:=List.getElem_of_mem hx
   have:=(key.2 i (by rw [← hl]; exact hi)).2
   simpa [List.getD_eq_getElem?_getD,hi] using this
def shF:Nat→(Nat→List FV)→Nat→List FV
 | 0,f => f
 | l+1,f => fun i => f (l+1+i)
theorem shF_eq (lo:Nat) (f:Nat→List FV) (i:Nat):shF lo f i=f (lo+i):=by cases lo <;> simp [shF]
def mapF (g:LV→Option (FV×List Prop)):List LV→Option (List FV×List Prop)
 | [] => some ([],[])
 | v :: l => match g v with
  | none => none
  | some (a,c) => match mapF g l with
   | none => none
   | some (b,c') => some (a :: b,c++c')
def fz (h:List (Nat×Ob)):Nat→LV→Option (FV×List Prop)
 | 0,_ => none
 | m+1,v => match v with
  | .d v => bif Nat.blt (depF v) 40 then some (v,[]) else none
  | .p k o => match lkO h k with
   | some (.st _ cs) => bif Nat.ble o cs.length then (match mapF (fz h m) (cs.drop o) with | some (r,c) => some (.fp r,c) | none => none) else none
   | _ => none
  | .ls k lo n => match lkO h k with
   | some (.sl _ _ n' f) => bif Nat.beq m 0 then none else some (.sv n (shF lo f),[addN lo n≤n',∀ i,i<n→depFL (shF lo f i)<40])
   | _ => none
  | .agg cs => match mapF (fz h m) cs with | some (r,c) => some (.agg r,c) | none => none
  | .tup cs => match mapF (fz h m) cs with | some (r,c) => some (.tup r,c) | none => none
  | .func f cs => match mapF (fz h m) cs with | some (r,c) => some (.func f r,c) | none => none
  | _ => none
def fzK (h:List (Nat×Ob)):Nat→LV→List Nat
 | 0,_ => []
 | m+1,v => match v with
  | .p k o => k :: (match lkO h k with
   | some (.st _ cs) => (cs.drop o).flatMap (fzK h m)
   | _ => [])
  | .ls k _ _ => [k]
  | .agg cs => cs.flatMap (fzK h m)
  | .tup cs => cs.flatMap (fzK h m)
  | .func _ cs => cs.flatMap (fzK h m)
  | _ => []
theorem mapF_get {g:LV→Option (FV×List Prop)}:∀ {l:List LV} {r:List FV} {c:List Prop},mapF g l=some (r,c)→AllP c→r.length=l.length∧∀ i,i<l.length→∃ c',g (l.getD i .undef)=some (r.getD i .undef,c')∧AllP c'
 | [],r,c,h,hc => by
  simp only [mapF,Option.some.injEq,Prod.mk.injEq] at h
  obtain ⟨rfl,rfl⟩:=h
  exact ⟨rfl,fun i hi => by simp at hi⟩
 | v :: l,r,c,h,hc => by
  simp only [mapF] at h
  split at h
  ·cases h
  ·rename_i a c1 h1
   split at h
   ·cases h
   ·rename_i b c2 h2
    simp only [Option.some.injEq,Prod.mk.injEq] at h
    obtain ⟨rfl,rfl⟩:=h
    obtain ⟨q1,q2⟩:=allP_append.1 hc
    obtain ⟨k1,k2⟩:=mapF_get h2 q2
    refine ⟨by simp [k1],fun i hi => ?_⟩
    cases i with
    | zero => exact ⟨c1,h1,q1⟩
    | succ i => simpa using k2 i (by simpa using hi)
def FzOk (hp:Hp) (h:List (Nat×Ob)) (ρ:Rho) (F m:Nat) (v:LV) (fv:FV) (a:AV):Prop:=
 frz hp F a=some (toA fv)∧(∀ κ,κ∈frzK hp F a↔∃ k∈fzK h m v,ρ k=some κ)∧∀ k∈fzK h m v,(lkO h k).isSome=true
theorem zrb {hp:Hp} {h:List (Nat×Ob)} {ρ:Rho} {F m:Nat} (ih:∀ {v:LV} {a:AV} {fv:FV} {c:List Prop},RL ρ v a→fz h m v=some (fv,c)→AllP c→FzOk hp h ρ F m v fv a)
  {cs:List LV} {cs':List AV} (hr:RLs ρ cs cs') {r:List FV} {c:List Prop} (hm:mapF (fz h m) cs=some (r,c)) (hc:AllP c) :
  cs'.mapM (frz hp F)=some (toAL r)∧(∀ κ,κ∈cs'.flatMap (frzK hp F)↔∃ k∈cs.flatMap (fzK h m),ρ k=some κ)∧∀ k∈cs.flatMap (fzK h m),(lkO h k).isSome=true:=by
 obtain ⟨k1,k2⟩:=mapF_get hm hc
 have key:∀ i,i<cs.length→FzOk hp h ρ F m (cs.getD i .undef) (r.getD i .undef) (cs'.getD i .undef):=fun i hi => by
  obtain ⟨c',e1,e2⟩:=k2 i hi
  exact ih (hr.2 i hi) e1 e2
 refine ⟨?_,fun κ => ⟨fun hk => ?_,?_⟩,fun k hk => ?_⟩
 ·rw [toAL_map]
  refine mapM_of (by simp [k1,hr.1]) fun i a b ha hb => ?_
  have hi:i<cs'.length:=(List.getElem?_eq_some_iff.1 ha).1
  have hi':i<cs.length:=by rw [← hr.1]; exact hi
  have:=(key i hi').1
  rw [List.getD_eq_getElem?_getD,ha] at this
  simp only [Option.getD_some] at this
  rw [this]
  have hr':i<r.length:=by rw [k1]; exact hi'
  simp only [List.getElem?_map,List.getElem?_eq_getElem hr',Option.map_some,Option.some.injEq] at hb
  simp only [List.getD_eq_getElem?_getD,List.getElem?_eq_getElem hr',Option.getD_some,hb]
 ·obtain ⟨x,hx,hκ⟩:=List.mem_flatMap.1 hk
  obtain ⟨i,hi,rfl⟩:=List.getElem_of_mem hx
  have hi':i<cs.length:=by rw [← hr.1]; exact hi
  have:=(key i hi').2.1 κ
  rw [List.getD_eq_getElem?_getD (l:=cs'),List.getElem?_eq_getElem hi] at this
  obtain ⟨k,q1,q2⟩:=this.1 hκ
  refine ⟨k,List.mem_flatMap.2 ⟨_,?_,q1⟩,q2⟩
  rw [List.getD_eq_getElem?_getD,List.getElem?_eq_getElem hi']
  exact List.getElem_mem _
 ·rintro ⟨k,hk,e⟩
  obtain ⟨x,hx,hκ⟩:=List.mem_flatMap.1 hk
  obtain ⟨i,hi,rfl⟩:=List.getElem_of_mem hx
  have hi':i<cs'.length:=by rw [hr.1]; exact hi
  have:=(key i hi).2.1 κ
  rw [List.getD_eq_getElem?_getD (l:=cs'),List.getElem?_eq_getElem hi'] at this
  refine List.mem_flatMap.2 ⟨_,List.getElem_mem hi',this.2 ⟨k,?_,e⟩⟩
  rw [List.getD_eq_getElem?_getD,List.getElem?_eq_getElem hi]; exact hκ
 ·obtain ⟨x,hx,hκ⟩:=List.mem_flatMap.1 hk
  obtain ⟨i,hi,rfl⟩:=List.getElem_of_mem hx
  refine (key i hi).2.2 k ?_
  rw [List.getD_eq_getElem?_getD,List.getElem?_eq_getElem hi]; exact hκ
theorem zvK {hp:Hp} {h:List (Nat×Ob)} {ρ:Rho} (ho:∀ k o,lkO h k=some o→RO ρ hp k o):∀ (m F:Nat),m+60≤F→∀ {v:LV} {a:AV} {fv:FV} {c:List Prop},RL ρ v a→fz h m v=some (fv,c)→AllP c→FzOk hp h ρ F m v fv a:=by
 intro m
 induction m with
 | zero => intro F hF v a fv c r hf hc; cases hf
 | succ m ih => 
  intro F hF v a fv c r hf hc
  obtain ⟨F,rfl⟩:∃ F',F=F'+1:=⟨F - 1,by omega⟩
  have ih':=fun {v:LV} {a:AV} {fv:FV} {c:List Prop} => @ih F (by omega) v a fv c
  cases v with
  | undef => simp [fz] at hf
  | hole => simp [fz] at hf
  | mapk => simp [fz] at hf
  | ep => simp [fz] at hf
  | d v => 
   simp only [fz] at hf
   rw [Bool.cond_eq_ite] at hf
   split at hf
   ·rename_i hb
    simp only [Option.some.injEq,Prod.mk.injEq] at hf
    obtain ⟨rfl,rfl⟩:=hf
    have:=frzRD (hp:=hp) (rl_d r) (F+1) (by have:=zdC.1 hb; omega)
    exact ⟨this.1,fun κ => by rw [this.2]; simp [fzK],fun k hk => by simp [fzK] at hk⟩
   ·cases hf
  | agg cs => 
   simp only [fz] at hf
   split at hf
   ·rename_i rr c' hm
    simp only [Option.some.injEq,Prod.mk.injEq] at hf
    obtain ⟨rfl,rfl⟩:=hf
    obtain ⟨cs',rfl,hr⟩:=zwJ r
    obtain ⟨q1,q2,q3⟩:=zrb ih' hr hm hc
    exact ⟨by simp only [frz,q1]; rfl,fun κ => by simpa only [frzK,fzK] using q2 κ,by simpa only [fzK] using q3⟩
   ·cases hf
  | tup cs => 
   simp only [fz] at hf
   split at hf
   ·rename_i rr c' hm
    simp only [Option.some.injEq,Prod.mk.injEq] at hf
    obtain ⟨rfl,rfl⟩:=hf
    obtain ⟨cs',rfl,hr⟩:=zxP r
    obtain ⟨q1,q2,q3⟩:=zrb ih' hr hm hc
    exact ⟨by simp only [frz,q1]; rfl,fun κ => by simpa only [frzK,fzK] using q2 κ,by simpa only [fzK] using q3⟩
   ·cases hf
  | func f cs => 
   simp only [fz] at hf
   split at hf
   ·rename_i rr c' hm
    simp only [Option.some.injEq,Prod.mk.injEq] at hf
    obtain ⟨rfl,rfl⟩:=hf
    obtain ⟨cs',rfl,hr⟩:=zuY r
    obtain ⟨q1,q2,q3⟩:=zrb ih' hr hm hc
    exact ⟨by simp only [frz,q1]; rfl,fun κ => by simpa only [frzK,fzK] using q2 κ,by simpa only [fzK] using q3⟩
   ·cases hf
  | p k o => 
   simp only [fz] at hf
   split at hf
   ·rename_i ro cs hk
    rw [Bool.cond_eq_ite] at hf
    split at hf
    ·rename_i hb
     rw [Nat.ble_eq] at hb
     split at hf
     ·rename_i rr c' hm
      simp only [Option.some.injEq,Prod.mk.injEq] at hf
      obtain ⟨rfl,rfl⟩:=hf
      obtain ⟨κ,hρ,rfl⟩:=rl_p r
      obtain ⟨κ',cs',g1,g2,g3⟩:=ho k _ hk
      obtain rfl:κ'=κ:=by rw [hρ] at g1; exact (Option.some.inj g1).symm
      obtain ⟨q1,q2,q3⟩:=zrb ih' (g3.drop o) hm hc
      refine ⟨?_,fun κ => ?_,?_⟩
      ·simp only [frz,g2,List.length_singleton,Nat.zero_lt_one,List.getD_cons_zero,true_and]
       rw [if_pos (by rw [g3.1]; exact hb),q1]; rfl
      ·simp only [frzK,g2,fzK,hk,List.getD_cons_zero,List.mem_cons,q2 κ]
       constructor
       ·rintro (rfl | ⟨k1,h1,h2⟩)
        ·exact ⟨k,.inl rfl,hρ⟩
        ·exact ⟨k1,.inr h1,h2⟩
       ·rintro ⟨k1,rfl | h1,h2⟩
        ·rw [hρ] at h2; exact .inl (Option.some.inj h2).symm
        ·exact .inr ⟨k1,h1,h2⟩
      ·intro k1 h1
       simp only [fzK,hk,List.mem_cons] at h1
       rcases h1 with rfl | h1
       ·rw [hk]; rfl
       ·exact q3 k1 h1
     ·cases hf
    ·cases hf
   ·cases hf
  | ls k lo n => 
   simp only [fz] at hf
   split at hf
   ·rename_i ro esz n' f hk
    rw [Bool.cond_eq_ite] at hf
    split at hf
    ·cases hf
    ·simp only [Option.some.injEq,Prod.mk.injEq] at hf
     obtain ⟨rfl,rfl⟩:=hf
     obtain ⟨c1,c2,_⟩:=hc
     rw [addN_eq] at c1
     have hs:∀ k1∈fzK h (m+1) (.ls k lo n),(lkO h k1).isSome=true:=by
      intro k1 h1
      simp only [fzK,List.mem_singleton] at h1
      subst h1; rw [hk]; rfl
     rcases zwc r with ⟨κ,hρ,rfl⟩ | ⟨hρ,rfl,rfl⟩
     ·rcases ho k _ hk with ⟨κ',es,g1,g2,g3,g4⟩ | ⟨g1,_⟩
      ·obtain rfl:κ'=κ:=by rw [hρ] at g1; exact (Option.some.inj g1).symm
       have hle:lo+n≤es.length:=by omega
       have el:∀ i,i<n→es.getD (lo+i) []=((es.drop lo).take n).getD i []:=by
        intro i hi
        simp [List.getD_eq_getElem?_getD,List.getElem?_take,hi]
       have key:∀ i,i<n→PW (fun v a => frz hp F a=some (toA v)∧frzK hp F a=[]) .undef .undef (f (lo+i)) (es.getD (lo+i) []):=by
        intro i hi
        have g5:=g4 (lo+i) (by omega)
        refine ⟨g5.1,fun j hj => frzRD (g5.2 j hj) F ?_⟩
        have d1:depF ((f (lo+i)).getD j .undef)≤depFL (f (lo+i)):=depFL_le (by rw [List.getD_eq_getElem?_getD,List.getElem?_eq_getElem hj]; exact List.getElem_mem _)
        have d2:=c2 i hi
        rw [shF_eq] at d2
        omega
       have hlen:((es.drop lo).take n).length=n:=by simp; omega
       refine ⟨?_,fun κ => ?_,hs⟩
       ·rw [zxT F κ' lo n g2 hle]
        have:((es.drop lo).take n).mapM (fun c:List AV => c.mapM (frz hp F))=some ((List.range n).map fun i => toAL (shF lo f i)):=by
         refine mapM_of (by simp; omega) fun i a b ha hb => ?_
         have hi:i<n:=by
          have:=(List.getElem?_eq_some_iff.1 ha).1
          rw [hlen] at this; exact this
         have ea:es.getD (lo+i) []=a:=by
          rw [el i hi,List.getD_eq_getElem?_getD,ha]; rfl
         have eb:b=toAL (shF lo f i):=by
          simp [hi] at hb; exact hb.symm
         rw [eb,shF_eq,← ea]
         exact ztv (key i hi) (fun v a _ h => h.1)
        rw [this]; rfl
       ·rw [frzK_sl F κ' lo n g2]
        have:((es.drop lo).take n).flatMap (fun c => c.flatMap (frzK hp F))=[]:=by
         refine flatMap_nil fun c hc => flatMap_nil fun x hx => ?_
         obtain ⟨i,hi,rfl⟩:=List.getElem_of_mem hc
         have hi':i<n:=by rw [hlen] at hi; exact hi
         obtain ⟨j,hj,rfl⟩:=List.getElem_of_mem hx
         have e1:((es.drop lo).take n)[i]=es.getD (lo+i) []:=by
          rw [el i hi',List.getD_eq_getElem?_getD,List.getElem?_eq_getElem hi]; rfl
         simp only [e1] at hj ⊢
         have:=((key i hi').2 j (by rw [← (key i hi').1]; exact hj)).2
         rw [List.getD_eq_getElem?_getD,List.getElem?_eq_getElem hj] at this
         exact this
        rw [this]
        simp only [List.mem_singleton,fzK]
        constructor
        ·rintro rfl; exact ⟨k,rfl,hρ⟩
        ·rintro ⟨k1,rfl,h2⟩
         rw [hρ] at h2; exact (Option.some.inj h2).symm
      ·rw [hρ] at g1; cases g1
     ·refine ⟨rfl,fun κ => ?_,hs⟩
      simp only [frzK,fzK,List.mem_singleton]
      constructor
      ·intro h; cases h
      ·rintro ⟨k1,rfl,h2⟩
       rw [hρ] at h2; cases h2
   ·cases hf
inductive An where
 | k (key:Nat)
 | r (v:FV)
 | s (lit:Bool) (n:Nat) (f:Nat→List FV)
 | ks (lit:Bool) (key n:Nat) (f:Nat→List FV)
 | e (cs:List FV)
 | sb (n:Nat) (f:Nat→List FV)
 | c (hk hn st:List Nat) (lv:LV) (H:List (Nat×Ob))
def putL2 (d:Option Nat) (t:List (Nat×LV)) (v:LV):List (Nat×LV):=match d with
 | some d => (d,v) :: t
 | none => t
theorem putL2_sound {ρ:Rho} {t:List (Nat×LV)} {u:Nat→AV} (ht:∀ i,RL ρ (lkT t i) (u i)) {v:LV} {a:AV} (r:RL ρ v a) (d:Option Nat):∀ i,RL ρ (lkT (putL2 d t v) i) (putT d u a i):=by
 intro i
 cases d with
 | none => exact ht i
 | some d => 
  simp only [putL2,putT,upd,lkT,lk]
  by_cases h:i=d
  ·subst h; rw [beqT,if_pos rfl]; exact r
  ·rw [beqF h,if_neg h]; exact ht i
def setH (k:Nat) (o:Ob):List (Nat×Ob)→List (Nat×Ob)
 | [] => []
 | (i,q) :: l => bif Nat.beq i k then (i,o) :: l else (i,q) :: setH k o l
theorem setH_lk (k:Nat) (o:Ob):∀ (h:List (Nat×Ob)) (i:Nat),lkO (setH k o h) i=if i=k then (lkO h k).map (fun _ => o) else lkO h i
 | [],i => by simp [setH,lkO]
 | (j,q) :: l,i => by
  simp only [setH]
  by_cases hj:j=k
  ·subst hj
   rw [beqT,cond_true]
   simp only [lkO]
   by_cases hi:i=j
   ·subst hi; simp
   ·rw [beqF hi]; simp [hi]
  ·rw [beqF hj,cond_false]
   simp only [lkO]
   by_cases hi:i=j
   ·subst hi; rw [beqT]; simp [hj]
   ·rw [beqF hi,cond_false,setH_lk k o l i]
    by_cases hk:i=k
    ·subst hk; rw [if_pos rfl,if_pos rfl,beqF hi]; rfl
    ·rw [if_neg hk,if_neg hk]; rfl
theorem Rep.set {K0:List Nat} {fr:Frm} {ρ:Rho} {t:List (Nat×LV)} {h:List (Nat×Ob)} {s:St} (r:Rep K0 fr ρ t h s) {k κ:Nat} {o':Ob} {h':Hp}
  (hs:(lkO h k).isSome=true) (hρ:ρ k=some κ) (hh:∀ κ',κ'≠κ→h' κ'=s.h κ') (ho:RO ρ h' k o') (hrw:AllR h'):Rep K0 fr ρ t (setH k o' h) ⟨s.t,h',s.n⟩:=by
 have iss:∀ k',(lkO (setH k o' h) k').isSome=true→(lkO h k').isSome=true:=by
  intro k' hk
  rw [setH_lk] at hk
  split at hk
  ·rename_i e; subst e; exact hs
  ·exact hk
 refine ⟨r.t,fun k' o1 ho1 => ?_,fun k1 k2 κ' h1 h2 => r.inj k1 k2 κ' (iss _ h1) (iss _ h2),fun k1 κ' h1 => r.lt k1 κ' (iss _ h1),fun κ' hd => ?_,fun k1 κ' h1 => r.dis k1 κ' (iss _ h1),r.n0,r.an,hrw⟩
 ·rw [setH_lk] at ho1
  split at ho1
  ·rename_i e
   subst e
   obtain ⟨o2,_,rfl⟩:=Option.map_eq_some_iff.1 ho1
   exact ho
  ·rename_i hne
   have:=r.o k' o1 ho1
   have same:∀ κ',ρ k'=some κ'→h' κ'=s.h κ':=fun κ' e => hh κ' (fun e2 => hne (r.inj k' k κ (by rw [ho1]; rfl) hs (e2 ▸ e) hρ))
   cases o1 with
   | st ro cs => 
    obtain ⟨κ1,cs',g1,g2,g3⟩:=this
    exact ⟨κ1,cs',g1,(same κ1 g1).trans g2,g3⟩
   | sl ro esz n f => 
    rcases this with ⟨κ1,es,g1,g2,g3⟩ | g
    ·exact .inl ⟨κ1,es,g1,(same κ1 g1).trans g2,g3⟩
    ·exact .inr g
 ·obtain ⟨q1,q2⟩:=r.fm κ' hd
  exact ⟨q1,(hh κ' (fun e => r.dis k κ hs hρ (e ▸ hd))).trans q2⟩
section
variable {K0:List Nat} {fr:Frm} {ρ0:Rho} {W2:W2L} {base res:Nat} {ρ:Rho} {y:Y} {s:St}
theorem RY.put (hR:RY K0 fr ρ0 W2 base res ρ y s) {v:LV} {a:AV} (r:RL ρ v a) (d:Option Nat):RY K0 fr ρ0 W2 base res ρ ⟨putL2 d y.t v,y.h,y.nw,y.us⟩ ⟨putT d s.t a,s.h,s.n⟩:=
 ⟨⟨putL2_sound hR.r.t r d,hR.r.o,hR.r.inj,hR.r.lt,hR.r.fm,hR.r.dis,hR.r.n0,hR.r.an,hR.r.rows⟩,hR.bn,hR.sn,hR.us,hR.nw,hR.wk⟩
def keyOk (K0:List Nat) (W2:W2L) (res:Nat) (y:Y) (key j:Nat):Bool:=!K0.contains key&&(W2.all (fun c => !Nat.beq c.1 key)&&(!y.us.contains j&&Nat.blt j res))
def newY (y:Y) (key j:Nat) (o:Ob):Y:=⟨scrT key y.t,(key,o) :: scrH key y.h,key :: y.nw,j :: y.us⟩
theorem RY.new (hR:RY K0 fr ρ0 W2 base res ρ y s) {key j:Nat} (hk:keyOk K0 W2 res y key j=true) {o:Ob} {x:Option Nat} (hx:x=none∨x=some (base+j)) {h':Hp}
  (hh:∀ κ,κ≠base+j→((lkO y.h key).isSome=true→ρ key≠some κ)→h' κ=s.h κ) (ho:RO (updR ρ key x) h' key o) (hrw:AllR h'):RY K0 fr ρ0 W2 base res (updR ρ key x) (newY y key j o) ⟨s.t,h',s.n⟩:=by
 simp only [keyOk,Bool.and_eq_true,Bool.not_eq_true',List.all_eq_true,zdC] at hk
 obtain ⟨k1,k2,k3,k4⟩:=hk
 have fresh:∀ k',(lkO y.h k').isSome=true→k'≠key→ρ k'≠some (base+j):=by
  intro k' hs _ e
  rcases hR.us k' _ hs e with h | h | ⟨j',h1,h2⟩
  ·omega
  ·omega
  ·have:j'=j:=by omega
   subst this
   have:y.us.contains j'=true:=by simpa using h1
   rw [this] at k3; cases k3
 have hD:¬ fr.D (base+j):=fun hd => by have:=(hR.r.fm _ hd).1; have:=hR.bn; omega
 have r:=hR.r.new k1 hx fresh hD (by have:=hR.sn; omega) hh ho hrw
 have oldS:∀ k',k'≠key→(lkO (newY y key j o).h k').isSome=true→(lkO y.h k').isSome=true:=by
  intro k' hne hs
  simp only [newY,lkO,beqF hne,cond_false,scrH_lk,if_neg hne] at hs
  simpa using hs
 refine ⟨r,hR.bn,hR.sn,fun k κ hs e => ?_,fun k κ hs hn e => ?_,fun c hc => ?_⟩
 ·by_cases hne:k=key
  ·subst hne
   rw [updR_same] at e
   rcases hx with rfl | rfl
   ·cases e
   ·cases e; exact .inr (.inr ⟨j,by simp [newY],rfl⟩)
  ·rw [updR_ne _ _ hne] at e
   rcases hR.us k κ (oldS k hne hs) e with h | h | ⟨j',h1,h2⟩
   ·exact .inl h
   ·exact .inr (.inl h)
   ·exact .inr (.inr ⟨j',by simp [newY,h1],h2⟩)
 ·by_cases hne:k=key
  ·subst hne; simp [newY] at hn
  ·rw [updR_ne _ _ hne] at e
   refine hR.nw k κ (oldS k hne hs) ?_ e
   simp [newY] at hn
   simpa using hn.2
 ·have hne:c.1≠key:=by
   intro e
   have:=k2 c hc
   rw [e,beqT] at this; cases this
  obtain ⟨w1,w2⟩:=hR.wk c hc
  refine ⟨?_,by rw [updR_ne _ _ hne]; exact w2⟩
  simp only [newY,lkO,beqF hne,cond_false,scrH_lk,if_neg hne]
  simpa using w1
theorem RY.set (hR:RY K0 fr ρ0 W2 base res ρ y s) {k κ:Nat} {o':Ob} {h':Hp} (hs:(lkO y.h k).isSome=true) (hρ:ρ k=some κ) (hh:∀ κ',κ'≠κ→h' κ'=s.h κ') (ho:RO ρ h' k o') (hrw:AllR h') :
  RY K0 fr ρ0 W2 base res ρ ⟨y.t,setH k o' y.h,y.nw,y.us⟩ ⟨s.t,h',s.n⟩:=by
 have iss:∀ k',(lkO (setH k o' y.h) k').isSome=true↔(lkO y.h k').isSome=true:=by
  intro k'
  rw [setH_lk]
  split
  ·rename_i e; subst e; simp [hs]
  ·rfl
 exact ⟨hR.r.set hs hρ hh ho hrw,hR.bn,hR.sn,fun k1 κ1 h1 => hR.us k1 κ1 ((iss _).1 h1),fun k1 κ1 h1 => hR.nw k1 κ1 ((iss _).1 h1),fun c hc => ⟨(iss _).2 (hR.wk c hc).1,(hR.wk c hc).2⟩⟩
end
def toFs:List LV→Option (List FV)
 | [] => some []
 | .d v :: l => (toFs l).map fun r => v :: r
 | _ => none
theorem toFs_sound {ρ:Rho}:∀ {l:List LV} {r:List FV},toFs l=some r→∀ {m:List AV},RLs ρ l m→RDs r m
 | [],r,h,m,hr => by
  obtain rfl:=Option.some.inj h
  have:m=[]:=List.eq_nil_of_length_eq_zero (by simpa using hr.1)
  subst this; exact .nil
 | v :: l,r,h,m,hr => by
  cases v <;> first | (simp [toFs] at h; done) | skip
  simp only [toFs] at h
  obtain ⟨r',h',rfl⟩:=Option.map_eq_some_iff.1 h
  obtain ⟨b,m',rfl,h1,h2⟩:=hr.uncons
  exact .cons (rl_d h1) (toFs_sound h' h2)
def fillF (esz:Nat) (es:List (List FV)):List (Nat×LV)→Option (List (List FV))
 | [] => some es
 | (i,v) :: r => match toFs (cellsV v) with
  | none => none
  | some c => bif Nat.blt i es.length&&(Nat.beq c.length esz&&stoV v) then fillF esz (es.set i c) r else none
theorem fillF_sound {ρ:Rho} {t:List (Nat×LV)} {u:Nat→AV} (ht:∀ i,RL ρ (lkT t i) (u i)) (esz:Nat):∀ (ps:List (Nat×AX)) {es:List (List FV)} {es':List (List AV)},PW RDs [] [] es es'→∀ {r:List (List FV)},
  fillF esz es (ps.map fun p => (p.1,evL t p.2))=some r→∃ r',afillE esz es' (ps.map fun p => (p.1,evX u p.2))=some r'∧PW RDs [] [] r r'
 | [],es,es',hr,r,h => by obtain rfl:=Option.some.inj h; exact ⟨es',rfl,hr⟩
 | p :: ps,es,es',hr,r,h => by
  simp only [List.map_cons,fillF] at h
  split at h
  ·cases h
  ·rename_i c hc
   rw [Bool.cond_eq_ite] at h
   split at h
   ·rename_i hb
    simp only [Bool.and_eq_true,Nat.beq_eq,zdC] at hb
    obtain ⟨h1,h2,h3⟩:=hb
    obtain ⟨k1,k2⟩:=cellsV_sound (evL_sound ht p.2) h3
    have k3:=toFs_sound hc k1
    obtain ⟨r',q1,q2⟩:=fillF_sound ht esz ps (es:=es.set p.1 c) (es':=es'.set p.1 (cellsL (evX u p.2))) ⟨by simp [hr.1],fun i hi => by
     by_cases e:p.1=i
     ·subst e
      have e1:(es.set p.1 c).getD p.1 []=c:=by simp [List.getD_eq_getElem?_getD,h1]
      have e2:(es'.set p.1 (cellsL (evX u p.2))).getD p.1 []=cellsL (evX u p.2):=by simp [List.getD_eq_getElem?_getD,hr.1,h1]
      rw [e1,e2]; exact k3
     ·have:=hr.2 i (by simpa using hi)
      simpa [List.getD_eq_getElem?_getD,List.getElem?_set,e] using this⟩ h
    refine ⟨r',?_,q2⟩
    simp only [List.map_cons,afillE]
    rw [if_pos ⟨by rw [hr.1]; exact h1,by rw [k3.1]; exact h2,k2⟩]
    exact q1
   ·cases h
def zF (zs:List AV):List FV:=zs.map cFV
def zOk (zs:List AV):Bool:=zs.all constOk
theorem zF_sound {zs:List AV} (h:zOk zs=true):RDs (zF zs) zs:=by
 refine ⟨by simp [zF],fun i hi => ?_⟩
 have hi':i<zs.length:=by simpa [zF] using hi
 have hc:=List.all_eq_true.1 h zs[i] (List.getElem_mem hi')
 have:=rl_d (RL.cst (ρ:=fun _ => none) hc)
 simpa [zF,List.getD_eq_getElem?_getD,hi'] using this
theorem zL_sound {ρ:Rho} {zs:List AV} (h:zOk zs=true):RLs ρ ((zF zs).map .d) zs:=PW.mapl LV.d (zF_sound h) (fun a b h => .d _ _ h)
theorem zR_sound {zs:List AV} (h:zOk zs=true) (n:Nat):PW RDs [] [] (List.replicate n (zF zs)) (List.replicate n zs):=by
 refine ⟨by simp,fun i hi => ?_⟩
 have hi':i<n:=by simpa using hi
 have:=zF_sound h
 simpa [List.getD_eq_getElem?_getD,hi'] using this
def appF (m:Nat) (f g:Nat→List FV) (i:Nat):List FV:=bif Nat.blt i m then f i else g (i - m)
def elsL (h:List (Nat×Ob)) (dr:Bool) (nw:List Nat) (esz:Nat) (lit:Bool):LV→Option (Nat×(Nat→List FV)×List Prop)
 | .d .nils => some (0,fun _ => [],[])
 | .d (.sv q g) => match lit with
  | true => bif (List.range q).all (fun i => Nat.beq (g i).length esz&&clL (g i)) then some (q,g,[]) else none
  | false => some (q,g,[∀ i,i<q→(g i).length=esz∧clL (g i)=true])
 | .ls k lo q => match lkO h k with
  | some (.sl _ e n g) => bif Nat.beq e esz&&nOk dr nw k then some (q,shF lo g,[addN lo q≤n]) else none
  | _ => none
 | _ => none
section
variable {K0:List Nat} {fr:Frm} {ρ0:Rho} {W2:W2L} {base res:Nat} {ρ:Rho} {y:Y} {s:St}
theorem elsL_sound (hR:RY K0 fr ρ0 W2 base res ρ y s) {dr lit:Bool} {esz:Nat} {x:LV} {a:AV} (ra:RL ρ x a) {q:Nat} {g:Nat→List FV} {c:List Prop} (h:elsL y.h dr y.nw esz lit x=some (q,g,c)) (hc:AllP c) :
  ∃ xs,selems s.h esz a=some xs∧xs.length=q∧(∀ i,i<q→RDs (g i) (xs.getD i []))∧(dr=true→klt base a):=by
 have svs:∀ (q':Nat) (g':Nat→List FV),(∀ i,i<q'→(g' i).length=esz∧clL (g' i)=true)→RD (.sv q' g') a →
   ∃ xs,selems s.h esz a=some xs∧xs.length=q'∧(∀ i,i<q'→RDs (g' i) (xs.getD i []))∧(dr=true→klt base a):=by
  intro q' g' hc rd
  rcases zva rd with rfl | ⟨rfl,rfl⟩
  ·refine ⟨(List.range q').map fun i => (g' i).map toA,?_,by simp,fun i hi => ?_,fun _ => trivial⟩
   ·simp only [selems]
    rw [if_pos]
    rw [List.all_eq_true]
    intro z hz
    obtain ⟨i,hi,rfl⟩:=List.mem_map.1 hz
    have:=(hc i (List.mem_range.1 hi)).1
    simp [this]
   ·have e:((List.range q').map fun i => (g' i).map toA).getD i []=(g' i).map toA:=by simp [List.getD_eq_getElem?_getD,hi]
    rw [e,← toAL_map]
    exact clL_sound _ (hc i hi).2
  ·exact ⟨[],rfl,rfl,fun i hi => by omega,fun _ => trivial⟩
 unfold elsL at h
 split at h
 ·simp only [Option.some.injEq,Prod.mk.injEq] at h
  obtain ⟨rfl,rfl,rfl⟩:=h
  obtain rfl:=zfc (rl_d ra)
  exact ⟨[],rfl,rfl,fun i hi => by omega,fun _ => trivial⟩
 ·rename_i q' g'
  split at h
  ·rw [Bool.cond_eq_ite] at h
   split at h
   ·rename_i hb
    simp only [Option.some.injEq,Prod.mk.injEq] at h
    obtain ⟨rfl,rfl,rfl⟩:=h
    refine svs _ _ (fun i hi => ?_) (rl_d ra)
    have:=List.all_eq_true.1 hb i (List.mem_range.2 hi)
    simpa using this
   ·cases h
  ·simp only [Option.some.injEq,Prod.mk.injEq] at h
   obtain ⟨rfl,rfl,rfl⟩:=h
   exact svs _ _ hc.1 (rl_d ra)
 ·rename_i k lo q'
  split at h
  ·rename_i ro e n g' ho
   rw [Bool.cond_eq_ite] at h
   split at h
   ·rename_i hb
    simp only [Bool.and_eq_true,Nat.beq_eq] at hb
    obtain ⟨rfl,hn⟩:=hb
    simp only [Option.some.injEq,Prod.mk.injEq] at h
    obtain ⟨rfl,rfl,rfl⟩:=h
    have c1:=hc.1
    rw [addN_eq] at c1
    rcases zwc ra with ⟨κ,hρ,rfl⟩ | ⟨hρ,rfl,rfl⟩
    ·rcases hR.r.o k _ ho with ⟨κ',es,g1,g2,g3,g4⟩ | ⟨g1,_⟩
     ·obtain rfl:κ'=κ:=by rw [hρ] at g1; exact (Option.some.inj g1).symm
      refine ⟨(es.drop lo).take q',?_,by simp; omega,fun i hi => ?_,fun hd => zth hR hn hd (by rw [ho]; rfl) hρ⟩
      ·simp only [selems,g2]
       rw [if_pos ⟨by omega,trivial⟩]
      ·have:=g4 (lo+i) (by omega)
       rw [shF_eq]
       simpa [List.getD_eq_getElem?_getD,List.getElem?_take,hi] using this
     ·rw [hρ] at g1; cases g1
    ·exact ⟨[],rfl,rfl,fun i hi => by omega,fun _ => trivial⟩
   ·cases h
  ·cases h
 ·cases h
end
abbrev Ex:=Option (LV×Y×List Prop×List An)
def rok {α:Type} (b:Bool) (x:Option α):Option α:=bif b then x else none
theorem zbQ {α:Type} {b:Bool} {x:Option α} {r:α} (h:rok b x=some r):b=true∧x=some r:=by
 cases b
 ·cases h
 ·exact ⟨rfl,h⟩
def lkG:List (Nat×Bool)→Nat→Option Bool
 | [],_ => none
 | (k,b) :: l,i => bif Nat.beq i k then some b else lkG l i
def gdX (gd:List (Nat×Bool)):AX→Option Bool
 | .t i => lkG gd i
 | _ => none
def pkL (gd:List (Nat×Bool)) (c:AX) (cv a b:LV):Option (LV×List Prop):=
 match cv with
 | .d (.bool q) => match gdX gd c with
  | some w => some (bif w then a else b,[q=w])
  | none => match a,b with
   | .d (.bool x),.d (.bool z) => some (.d (.bool (bif q then x else z)),[])
   | _,_ => none
 | _ => none
def faL (off:Nat):LV→Option LV
 | .p k o => some (.p k (o+off))
 | .ep k i o => some (.ep k i (o+off))
 | .d (.fp cs) => bif Nat.ble off cs.length then some (.d (.fp (cs.drop off))) else none
 | _ => none
def mkifL (c:Nat):LV→Option FV
 | .d (.int .i64 n) => some (.err c (some n))
 | .d v => some (.iface c v)
 | _ => none
def extL (i:Nat):LV→Option LV
 | .tup vs => bif Nat.blt i vs.length then some (vs.getD i .undef) else none
 | .d (.tup vs) => bif Nat.blt i vs.length then some (.d (vs.getD i .undef)) else none
 | _ => none
def iaE (esz:Nat) (cs:List FV):LV→LV→Option (LV×List Prop)
 | .d (.sv m f),.d (.int _ i) => bif Nat.beq cs.length esz then some (.d (.fp cs),[0≤i∧i<m,f i.toNat=cs]) else none
 | _,_ => none
def stL (dr:Bool) (W2:W2L) (far:Bool) (n:Nat) (y:Y) (a v:LV) (an:List An):Ex:=
 match a with
 | .p k o => match lkO y.h k with
  | some (.st false cs) => rok (Nat.ble (o+n) cs.length&&(Nat.beq (cellsV v).length n&&(stoV v&&(!dr||(!far||(nOk true y.nw k&&farIn true W2 k o n))))))
    (some (.hole,⟨y.t,setH k (.st false (spl cs o (cellsV v))) y.h,y.nw,y.us⟩,[],an))
  | _ => none
 | .ep k i o => match lkO y.h k,toFs (cellsV v),an with
  | some (.sl false esz n' f),some c,.s _ _ f2 :: an => rok (Nat.ble (o+n) (f i).length&&(Nat.beq c.length n&&(stoV v&&(!dr||!far))))
    (some (.hole,⟨y.t,setH k (.sl false esz n' f2) y.h,y.nw,y.us⟩,[i<n',∀ j,j<n'→f2 j=bif Nat.beq j i then spl (f i) o c else f j],an))
  | _,_,_ => none
 | _ => none
def apL (K0:List Nat) (W2:W2L) (res:Nat) (dr:Bool) (j esz bytes:Nat) (y:Y) (s x:LV) (an:List An):Ex:=
 match s with
 | .ls k lo m => match lkO y.h k,an with
  | some (.sl false e n f),.s lit n2 f2 :: an => match elsL y.h false y.nw esz lit x with
   | some (q,g,c) => rok (Nat.beq lo 0&&(Nat.beq e esz&&(keyOk K0 W2 res y k j&&(!dr))))
     (some (.ls k 0 n2,newY y k j (.sl false esz n2 f2),c++[m≤n,(m+q) * bytes≤140737488355328,n2=m+q∧∀ i,i<n2→f2 i=appF m f g i],an))
   | none => none
  | _,_ => none
 | .d .nils => match an with
  | .ks lit key n2 f2 :: an => match elsL y.h dr y.nw esz lit x with
   | some (q,g,c) => rok (keyOk K0 W2 res y key j)
     (some (.ls key 0 n2,newY y key j (.sl false esz n2 f2),c++[q * bytes≤140737488355328,n2=q∧∀ i,i<n2→f2 i=g i],an))
   | none => none
  | _ => none
 | _ => none
def cnF:FV→FV
 | .nils => .sv 0 (fun _ => [])
 | .sv 0 _ => .sv 0 (fun _ => [])
 | v => v
def nnF:FV→Bool
 | .nils => false
 | _ => true
theorem zyK {f e:FV} {a:AV} (h:cnF f=cnF e) (n:nnF f=true) (r:RD e a):RD f a:=by
 have key:(∃ g,f=.sv 0 g)∧(e=.nils∨∃ g,e=.sv 0 g)∨f=e:=by
  unfold cnF at h
  split at h
  ·cases n
  ·split at h
   ·exact .inl ⟨⟨_,rfl⟩,.inl rfl⟩
   ·exact .inl ⟨⟨_,rfl⟩,.inr ⟨_,rfl⟩⟩
   ·rename_i h1 h2
    exact absurd h.symm (h2 _)
  ·rename_i h1 h2
   split at h
   ·exact absurd h (h2 _)
   ·exact absurd h (h2 _)
   ·exact .inr h
 rcases key with ⟨⟨g,rfl⟩,rfl | ⟨g',rfl⟩⟩ | rfl
 ·cases r with
  | c v hv => cases hv
  | nils => exact .sv0 _
 ·generalize hq:FV.sv 0 g'=q at r
  cases r with
  | c v hv => rw [← hq]; exact .c (.sv 0 g) rfl
  | sv0 f => exact .sv0 _
  | nils => cases hq
  | func => cases hq
  | iface => cases hq
  | agg => cases hq
  | tup => cases hq
 ·exact r
theorem zyp {f e:List FV} {a:List AV} (h:f.map cnF=e.map cnF) (n:f.all nnF=true) (r:RDs e a):RDs f a:=by
 have hl:f.length=e.length:=by simpa using congrArg List.length h
 refine ⟨by rw [r.1,hl],fun i hi => ?_⟩
 refine zyK ?_ ?_ (r.2 i (by omega))
 ·have:=congrArg (fun l => l.getD i .undef) h
  have hi':i<e.length:=by omega
  simpa [List.getD_eq_getElem?_getD,hi,hi'] using this
 ·have:=List.all_eq_true.1 n f[i] (List.getElem_mem hi)
  simpa [List.getD_eq_getElem?_getD,hi] using this
theorem getD_mapC (es:List (List FV)) (i:Nat):(es.map (List.map cnF)).getD i []=(es.getD i []).map cnF:=by
 rw [List.getD_eq_getElem?_getD,List.getElem?_map,List.getD_eq_getElem?_getD]
 cases es[i]? <;> rfl
def ex (K0:List Nat) (W2:W2L) (res:Nat) (dr:Bool) (gd:List (Nat×Bool)) (y:Y) (an:List An):AOp→Ex
 | .mov x => some (evL y.t x,y,[],an)
 | .asg x => some (evL y.t x,y,[],an)
 | .pick c a b => (pkL gd c (evL y.t c) (evL y.t a) (evL y.t b)).map fun r => (r.1,y,r.2,an)
 | .alloc j _ zs => match an with
  | .k key :: an => rok (zOk zs&&keyOk K0 W2 res y key j) (some (.p key 0,newY y key j (.st false ((zF zs).map .d)),[],an))
  | _ => none
 | .box j _ x => match an with
  | .k key :: an => rok (Nat.blt 0 (cellsV (evL y.t x)).length&&(stoV (evL y.t x)&&keyOk K0 W2 res y key j)) (some (.p key 0,newY y key j (.st false (scrL key (cellsV (evL y.t x)))),[],an))
  | _ => none
 | .build _ zs ps => rok (zOk zs) ((fillL ((zF zs).map .d) (ps.map fun p => (p.2.1,p.2.2.1,evL y.t p.2.2.2))).map fun cs => (.agg cs,y,[],an))
 | .bslice j _ zs n ps => match an with
  | .ks _ key n2 f2 :: an => match fillF zs.length (List.replicate n (zF zs)) (ps.map fun p => (p.1,evL y.t p.2)) with
   | some es => rok (zOk zs&&(keyOk K0 W2 res y key j&&Nat.beq n2 n)) (some (.ls key 0 n2,newY y key j (.sl false zs.length n2 f2),[∀ i,i<n2→(f2 i).map cnF=(es.map (List.map cnF)).getD i []∧(f2 i).all nnF=true],an))
   | none => none
  | _ => none
 | .load c ag n a => (ldL dr W2 (far c) ag n y (evL y.t a)).map fun r => (r.1,y,r.2,an)
 | .store c n a x => stL dr W2 (far c) n y (evL y.t a) (evL y.t x) an
 | .nilchk x => match an,evL y.t x with
  | .e cs :: an,.d (.pt o) => some (.d (.fp cs),y,[o=some cs],an)
  | an,v => rok (nilOk v) (some (v,y,[],an))
 | .bin op tk _ x z => (abinL op tk (isC x||isC z) (evL y.t x) (evL y.t z)).map fun r => (.d r.1,y,r.2,an)
 | .un op x => (aunF op (evL y.t x)).map fun r => (.d r,y,[],an)
 | .convi k _ _ x => match evL y.t x with
  | .d (.int _ n) => some (.d (.int k (k.wrap n)),y,[],an)
  | _ => none
 | .mkif c x => (mkifL c (evL y.t x)).map fun v => (.d v,y,[],an)
 | .mkfn f caps => some (.func f (caps.map (evL y.t)),y,[],an)
 | .fld _ _ off ag sz x => match evL y.t x with
  | .agg cs => rok (Nat.ble (off+sz) cs.length) ((mkL ag ((cs.drop off).take sz)).map fun v => (v,y,[],an))
  | .d (.agg cs) => rok (Nat.ble (off+sz) cs.length) ((mkL ag (((cs.map .d).drop off).take sz)).map fun v => (v,y,[],an))
  | _ => none
 | .faddr _ _ off a => (faL off (evL y.t a)).map fun v => (v,y,[],an)
 | .iaddr _ esz s i => match an with
  | .e cs :: an => (iaE esz cs (evL y.t s) (evL y.t i)).map fun r => (r.1,y,r.2,an)
  | an => (iaL dr esz y (evL y.t s) (evL y.t i)).map fun r => (r.1,y,r.2,an)
 | .idxA _ n ag esz x i => match an with
  | .r v :: an => match evL y.t x,evL y.t i with
   | .d (.agg cs),.d (.int _ i) => rok (!ag&&(Nat.beq esz 1&&Nat.ble n cs.length)) (some (.d v,y,[0≤i∧i<(n:Int),cs.getD i.toNat .undef=v],an))
   | _,_ => none
  | _ => none
 | .idxS _ x i => match evL y.t x,evL y.t i with
  | .d (.str s),.d (.int _ i) => some (.d (.int .u8 (btS s i)),y,[0≤i∧i<(s.size:Int)],an)
  | _,_ => none
 | .slcS _ x lo hi => match evL y.t x with
  | .d (.str s) => match bndF s.size (hi.map (evL y.t)),bndF 0 (lo.map (evL y.t)) with
   | some h,some l => some (.d (.str (s.extract l.toNat h.toNat)),y,[0≤l∧l≤h∧h≤s.size],an)
   | _,_ => none
  | _ => none
 | .slc _ esz x lo hi => match an with
  | .s _ n2 f2 :: an => (slL dr esz y n2 f2 (evL y.t x) (lo.map (evL y.t)) (hi.map (evL y.t))).map fun r => (r.1,y,r.2,an)
  | _ => none
 | .lenS _ x => match evL y.t x with
  | .d (.str s) => some (.d (.int .i64 s.size),y,[],an)
  | _ => none
 | .len _ x => (lenL (evL y.t x)).map fun (n:Nat) => (LV.d (.int .i64 (n:Int)),y,[],an)
 | .app j _ esz bytes s x => match evL y.t s with
  | .d .nils => rok (!dr) (apL K0 W2 res dr j esz bytes y (.d .nils) (evL y.t x) an)
  | v => apL K0 W2 res false j esz bytes y v (evL y.t x) an
 | .appN j _ esz bytes s x => match evL y.t s with
  | .d .nils => apL K0 W2 res dr j esz bytes y (.d .nils) (evL y.t x) an
  | _ => none
 | .mm mx _ _ x z => match evL y.t x,evL y.t z with
  | .d (.int k a),.d (.int _ b) => some (.d (.int k (match mx with | true => mxI a b | false => mnI a b)),y,[],an)
  | _,_ => none
 | .ext x i => (extL i (evL y.t x)).map fun v => (v,y,[],an)
 | .x (.cap _ x) => match evL y.t x with
  | .d .nils => some (.d (.int .i64 0),y,[],an)
  | _ => none
 | .x (.appZ j _ _ bytes zs x n) => match evL y.t x,evL y.t n,an with
  | .d .nils,.d (.int .i64 q),.k key :: an => rok (zOk zs&&keyOk K0 W2 res y key j)
    (some (.ls key 0 q.toNat,newY y key j (.sl false zs.length q.toNat fun _ => zF zs),[0≤q∧q.toNat * bytes≤140737488355328],an))
  | _,_,_ => none
 | _ => none
section
variable {K0:List Nat} {fr:Frm} {ρ0:Rho} {W2:W2L} {base res:Nat} {ρ:Rho} {y:Y} {s:St}
theorem pkL_sound {gd:List (Nat×Bool)} {c:AX} {cv a b:LV} {cv' a' b':AV} (rc:RL ρ cv cv') (ra:RL ρ a a') (rb:RL ρ b b') {lv:LV} {p:List Prop} (h:pkL gd c cv a b=some (lv,p)) (hp:AllP p) :
  ∃ q,cv'=.bool q∧RL ρ lv (apick q a' b'):=by
 unfold pkL at h
 split at h
 ·rename_i q
  obtain rfl:=zkk (rl_d rc)
  refine ⟨q,rfl,?_⟩
  split at h
  ·rename_i w hw
   simp only [Option.some.injEq,Prod.mk.injEq] at h
   obtain ⟨rfl,rfl⟩:=h
   obtain ⟨rfl,_⟩:=hp
   cases q with
   | true => cases a' <;> cases b' <;> exact ra
   | false => cases a' <;> cases b' <;> exact rb
  ·split at h
   ·rename_i x z
    simp only [Option.some.injEq,Prod.mk.injEq] at h
    obtain ⟨rfl,rfl⟩:=h
    obtain rfl:=zkk (rl_d ra); obtain rfl:=zkk (rl_d rb)
    refine .d _ _ ?_
    have:apick q (.bool x) (.bool z)=toA (.bool (bif q then x else z)):=by cases q <;> rfl
    rw [this]; exact .c _ rfl
   ·cases h
 ·cases h
theorem faL_sound {off:Nat} {x:LV} {a:AV} (ra:RL ρ x a) {lv:LV} (h:faL off x=some lv):∃ av,(match a with
  | .ptr κ i o => some ((.ptr κ i (o+off):AV),s.h)
  | .fptr cs => if off≤cs.length then some (.fptr (cs.drop off),s.h) else none
  | _ => none)=some (av,s.h)∧RL ρ lv av:=by
 cases x with
 | p k o => 
  obtain rfl:=Option.some.inj h
  obtain ⟨κ,hρ,rfl⟩:=rl_p ra
  exact ⟨_,rfl,.p _ _ _ hρ⟩
 | ep k i o => 
  obtain rfl:=Option.some.inj h
  obtain ⟨κ,hρ,rfl⟩:=zwd ra
  exact ⟨_,rfl,.ep _ _ _ _ hρ⟩
 | d v => 
  cases v <;> first | (simp [faL] at h; done) | skip
  rename_i cs
  simp only [faL] at h
  rw [Bool.cond_eq_ite] at h
  split at h
  ·rename_i hb
   rw [Nat.ble_eq] at hb
   obtain rfl:=Option.some.inj h
   obtain rfl:=zxw (rl_d ra)
   refine ⟨.fptr ((cs.drop off).map toA),?_,.d _ _ ?_⟩
   ·simp only [List.length_map]
    rw [if_pos hb,List.map_drop]
   ·have:=RD.c (.fp (cs.drop off)) rfl
    rw [show toA (.fp (cs.drop off))=.fptr ((cs.drop off).map toA) by simp only [toA,toAL_map]] at this
    exact this
  ·cases h
 | _ => simp [faL] at h
theorem mkifL_sound {c:Nat} {x:LV} {a:AV} (ra:RL ρ x a) {v:FV} (h:mkifL c x=some v):RD v (.iface c a):=by
 unfold mkifL at h
 split at h
 ·obtain rfl:=Option.some.inj h
  obtain rfl:=zgJ (rl_d ra)
  exact .c (.err c (some _)) rfl
 ·obtain rfl:=Option.some.inj h
  exact .iface _ _ _ (rl_d ra)
 ·cases h
theorem extL_sound {i:Nat} {x:LV} {a:AV} (ra:RL ρ x a) {lv:LV} (h:extL i x=some lv):∃ vs,a=.tup vs∧i<vs.length∧RL ρ lv (vs.getD i .undef):=by
 unfold extL at h
 split at h
 ·rw [Bool.cond_eq_ite] at h
  split at h
  ·rename_i hb
   obtain rfl:=Option.some.inj h
   obtain ⟨cs',rfl,hr⟩:=zxP ra
   have hi:=zdC.1 hb
   exact ⟨cs',rfl,by rw [hr.1]; exact hi,hr.2 i hi⟩
  ·cases h
 ·rw [Bool.cond_eq_ite] at h
  split at h
  ·rename_i hb
   obtain rfl:=Option.some.inj h
   obtain ⟨cs',rfl,hr⟩:=zyq (rl_d ra)
   have hi:=zdC.1 hb
   exact ⟨cs',rfl,by rw [hr.1]; exact hi,.d _ _ (hr.2 i hi)⟩
  ·cases h
 ·cases h
theorem iaE_sound {dr:Bool} {esz:Nat} {cs:List FV} {x i:LV} {a b:AV} (ra:RL ρ x a) (rb:RL ρ i b) {lv:LV} {c:List Prop} (h:iaE esz cs x i=some (lv,c)) (hc:AllP c) :
  ∃ av,aiaddr s.h esz a b=some av∧RL ρ lv av∧(dr=true→klt base a):=by
 unfold iaE at h
 split at h
 ·rename_i m f k' i'
  obtain rfl:=zgJ (rl_d rb)
  rw [Bool.cond_eq_ite] at h
  split at h
  ·rename_i hb
   rw [Nat.beq_eq] at hb
   simp only [Option.some.injEq,Prod.mk.injEq] at h
   obtain ⟨rfl,rfl⟩:=h
   obtain ⟨⟨c1,c2⟩,c3,_⟩:=hc
   rcases zva (rl_d ra) with rfl | ⟨rfl,rfl⟩
   ·have hi:i'.toNat<m:=by omega
    have e1:((List.range m).map fun i => (f i).map toA).getD i'.toNat []=cs.map toA:=by simp [List.getD_eq_getElem?_getD,hi,c3]
    refine ⟨.fptr (cs.map toA),?_,.d _ _ ?_,fun _ => trivial⟩
    ·simp only [aiaddr,List.length_map,List.length_range]
     rw [e1,if_pos ⟨c1,c2,by rw [List.length_map]; exact hb⟩]
    ·have:=RD.c (.fp cs) rfl
     simpa [toA,toAL_map] using this
   ·omega
  ·cases h
 ·cases h
def ExOk (K0:List Nat) (fr:Frm) (ρ0:Rho) (W2:W2L) (base res:Nat) (s:St) (dr:Bool) (op:AOp) (lv:LV) (y':Y):Prop:=
 ∃ av h' ρ',aval base s.t s.h op=some (av,h')∧(dr=true→rdOk base (Wof W2 ρ0) s.t op)∧RL ρ' lv av∧RY K0 fr ρ0 W2 base res ρ' y' ⟨s.t,h',s.n⟩
theorem ExOk.pure (hR:RY K0 fr ρ0 W2 base res ρ y s) {dr:Bool} {op:AOp} {lv:LV} {av:AV} (h1:aval base s.t s.h op=some (av,s.h)) (h2:dr=true→rdOk base (Wof W2 ρ0) s.t op) (h3:RL ρ lv av) :
  ExOk K0 fr ρ0 W2 base res s dr op lv y:=⟨av,s.h,ρ,h1,h2,h3,hR⟩
theorem stL_sound (hR:RY K0 fr ρ0 W2 base res ρ y s) {dr:Bool} {c n:Nat} {a x:AX} {an an':List An} {lv:LV} {y':Y} {p:List Prop}
  (h:stL dr W2 (far c) n y (evL y.t a) (evL y.t x) an=some (lv,y',p,an')) (hp:AllP p):ExOk K0 fr ρ0 W2 base res s dr (.store c n a x) lv y':=by
 have ra:=evL_sound hR.r.t a
 have rx:=evL_sound hR.r.t x
 revert h ra rx
 generalize evL y.t a=la
 generalize evL y.t x=lx
 intro h ra rx
 cases la with
 | p k o => 
  simp only [stL] at h
  split at h
  ·rename_i cs ho
   obtain ⟨hb,h⟩:=zbQ h
   simp only [Bool.and_eq_true,Bool.or_eq_true,Bool.not_eq_true',Nat.ble_eq,Nat.beq_eq] at hb
   obtain ⟨b1,b2,b3,b4⟩:=hb
   simp only [Option.some.injEq,Prod.mk.injEq] at h
   obtain ⟨rfl,rfl,rfl,rfl⟩:=h
   obtain ⟨κ,hρ,ea⟩:=rl_p ra
   obtain ⟨κ',cs',g1,g2,g3⟩:=zyw hR ho
   obtain rfl:κ'=κ:=by rw [hρ] at g1; exact (Option.some.inj g1).symm
   obtain ⟨q1,q2⟩:=cellsV_sound rx b3
   refine ⟨.hole,upd s.h κ' (some (.row false cs.length [splice cs' o (cellsL (evX s.t x))])),ρ,?_,fun hd => ?_,.hole,?_⟩
   ·simp only [aval,ea,astore,g2,List.length_singleton,Nat.zero_lt_one,List.getD_cons_zero,List.set_cons_zero,true_and]
    rw [if_pos ⟨by rw [g3.1]; exact b1,by rw [q1.1]; exact b2,q2⟩]; rfl
   ·intro hf
    subst hd
    rw [hf] at b4
    simp only [Bool.true_eq_false,false_or] at b4
    rw [ea]
    refine ⟨zth hR b4.1 rfl (by rw [ho]; rfl) hρ,fun q h1 h2 => ?_⟩
    have b5:=b4.2
    simp only [farIn,Bool.not_true,Bool.false_or,List.all_eq_true] at b5
    have:=b5 (q - o) (List.mem_range.2 (by omega))
    obtain ⟨w,hw,e⟩:=List.any_eq_true.1 this
    simp only [Bool.and_eq_true,Nat.beq_eq] at e
    obtain ⟨e1,e2,e3⟩:=e
    obtain ⟨k',i',q'⟩:=w
    simp only at e1 e2 e3
    subst e1 e2 e3
    refine ⟨k',?_,by rw [← (hR.wk _ hw).2]; exact hρ⟩
    rw [show o+(q - o)=q by omega] at hw; exact hw
   ·have:=hR.set (o':=.st false (spl cs o (cellsV lx))) (h':=upd s.h κ' (some (.row false cs.length [splice cs' o (cellsL (evX s.t x))]))) (by rw [ho]; rfl) hρ (fun κ1 hne => zaE _ _ _ hne) ?_ (hR.r.rows.upd _ _ _ _)
    ·exact this
    ·refine ⟨κ',splice cs' o (cellsL (evX s.t x)),hρ,?_,PW.spl g3 q1 o⟩
     rw [zam]
     have:(spl cs o (cellsV lx)).length=cs.length:=by simp [spl]; omega
     rw [this]
  ·cases h
 | ep k i o => 
  simp only [stL] at h
  split at h
  ·rename_i esz n' f cc _ _ f2 an2 ho hcc
   obtain ⟨hb,h⟩:=zbQ h
   simp only [Bool.and_eq_true,Bool.or_eq_true,Bool.not_eq_true',Nat.ble_eq,Nat.beq_eq] at hb
   obtain ⟨b1,b2,b3,b4⟩:=hb
   simp only [Option.some.injEq,Prod.mk.injEq] at h
   obtain ⟨rfl,rfl,rfl,rfl⟩:=h
   obtain ⟨c1,c2,_⟩:=hp
   obtain ⟨κ,hρ,ea⟩:=zwd ra
   rcases hR.r.o k _ ho with ⟨κ',es,g1,g2,g3,g4⟩ | ⟨g1,_⟩
   ·obtain rfl:κ'=κ:=by rw [hρ] at g1; exact (Option.some.inj g1).symm
    obtain ⟨q1,q2⟩:=cellsV_sound rx b3
    have q3:=toFs_sound hcc q1
    have g5:=g4 i c1
    refine ⟨.hole,upd s.h κ' (some (.row false esz (es.set i (splice (es.getD i []) o (cellsL (evX s.t x)))))),ρ,?_,fun hd => ?_,.hole,?_⟩
    ·simp only [aval,ea,astore,g2]
     rw [if_pos ⟨by omega,by rw [g5.1]; exact b1,by rw [q3.1]; exact b2,q2⟩]; rfl
    ·intro hf
     subst hd
     rw [hf] at b4
     simp at b4
    ·refine hR.set (o':=.sl false esz n' f2) (by rw [ho]; rfl) hρ (fun κ1 hne => zaE _ _ _ hne) (.inl ⟨κ',_,hρ,zam _ _ _,by simpa using g3,fun j hj => ?_⟩) (hR.r.rows.upd _ _ _ _)
     rw [c2 j hj]
     by_cases e:j=i
     ·subst e
      rw [beqT,cond_true]
      have e1:(es.set j (splice (es.getD j []) o (cellsL (evX s.t x)))).getD j []=splice (es.getD j []) o (cellsL (evX s.t x)):=by
       rw [List.getD_eq_getElem?_getD,List.getElem?_set_self (by omega)]; rfl
      rw [e1]; exact PW.splF g5 q3 o
     ·rw [beqF e,cond_false]
      have e1:(es.set i (splice (es.getD i []) o (cellsL (evX s.t x)))).getD j []=es.getD j []:=by
       rw [List.getD_eq_getElem?_getD,List.getElem?_set_ne (by omega),List.getD_eq_getElem?_getD]
      rw [e1]; exact g4 j hj
   ·rw [hρ] at g1; cases g1
  ·cases h
 | _ => simp [stL] at h
theorem apL_sound (hR:RY K0 fr ρ0 W2 base res ρ y s) {dr:Bool} {j esz bytes:Nat} {lx lx':LV} {ax ax':AV} (rs:RL ρ lx ax) (rx:RL ρ lx' ax') {an an':List An} {lv:LV} {y':Y} {p:List Prop}
  (h:apL K0 W2 res dr j esz bytes y lx lx' an=some (lv,y',p,an')) (hp:AllP p) :
  ∃ av h' ρ',aapp s.h (base+j) esz bytes ax ax'=some (av,h')∧(dr=true→klt base ax')∧RL ρ' lv av∧RY K0 fr ρ0 W2 base res ρ' y' ⟨s.t,h',s.n⟩:=by
 unfold apL at h
 split at h
 ·rename_i k lo m
  split at h
  ·rename_i e n f lit n2 f2 an2 ho
   split at h
   ·rename_i q g c hel
    obtain ⟨hb,hq⟩:=zbQ h
    clear h
    simp only [Bool.and_eq_true,Nat.beq_eq,Bool.not_eq_true'] at hb
    obtain ⟨rfl,rfl,b3,rfl⟩:=hb
    simp only [Option.some.injEq,Prod.mk.injEq] at hq
    obtain ⟨rfl,rfl,rfl,rfl⟩:=hq
    obtain ⟨hp1,c1,c2,⟨c3,c4⟩,_⟩:=allP_append.1 hp
    obtain ⟨xs,x1,x2,x3,_⟩:=elsL_sound hR rx hel hp1
    rcases zwc rs with ⟨κ,hρ,rfl⟩ | ⟨hρ,rfl,rfl⟩
    ·rcases hR.r.o k _ ho with ⟨κ',es,g1,g2,g3,g4⟩ | ⟨g1,_⟩
     ·obtain rfl:κ'=κ:=by rw [hρ] at g1; exact (Option.some.inj g1).symm
      refine ⟨.sl (base+j) 0 (m+xs.length),upd (upd s.h κ' none) (base+j) (some (.row false e (es.take m++xs))),updR ρ k (some (base+j)),?_,fun hd => (by cases hd),?_,?_⟩
      ·simp only [aapp,x1,g2]
       rw [if_pos ⟨by omega,by rw [x2]; exact c2,trivial⟩]
      ·rw [c3,x2]; exact .ls _ _ _ _ (updR_same _ _ _)
      ·refine hR.new b3 (.inr rfl) (fun κ1 h1 h2 => ?_) (.inl ⟨base+j,es.take m++xs,updR_same _ _ _,zam _ _ _,by simp; omega,fun i hi => ?_⟩) ((hR.r.rows.none _).upd _ _ _ _)
       ·have:κ1≠κ':=fun e => h2 (by rw [ho]; rfl) (e ▸ hρ)
        rw [zaE _ _ _ h1,zaE _ _ _ this]
       ·rw [c4 i hi]
        unfold appF
        by_cases hm:i<m
        ·rw [zdC.2 hm,cond_true]
         have e1:(es.take m++xs).getD i []=es.getD i []:=by
          have:i<(es.take m).length:=by simp; omega
          rw [List.getD_eq_getElem?_getD,List.getD_eq_getElem?_getD,List.getElem?_append_left this,List.getElem?_take_of_lt hm]
         rw [e1]; exact g4 i (by omega)
        ·have hb:Nat.blt i m=false:=by
          cases e:Nat.blt i m with
          | false => rfl
          | true => exact absurd (zdC.1 e) hm
         rw [hb,cond_false]
         have e1:(es.take m++xs).getD i []=xs.getD (i - m) []:=by
          have h1:(es.take m).length=m:=by simp; omega
          rw [List.getD_eq_getElem?_getD,List.getD_eq_getElem?_getD,List.getElem?_append_right (by omega),h1]
         rw [e1]; exact x3 (i - m) (by omega)
     ·rw [hρ] at g1; cases g1
    ·have hx0:n2=xs.length:=by omega
     cases hxs:xs.isEmpty with
     | true => 
      have:xs=[]:=by simpa using hxs
      subst this
      have hn0:n2=0:=by simpa using hx0
      subst hn0
      refine ⟨.nils,s.h,updR ρ k none,?_,fun hd => (by cases hd),.ls0 _ _ (updR_same _ _ _),?_⟩
      ·simp only [aapp,x1,List.length_nil,Nat.zero_mul]; rfl
      ·exact hR.new b3 (.inl rfl) (fun κ1 h1 h2 => rfl) (.inr ⟨updR_same _ _ _,rfl⟩) hR.r.rows
     | false => 
      refine ⟨.sl (base+j) 0 xs.length,upd s.h (base+j) (some (.row false e xs)),updR ρ k (some (base+j)),?_,fun hd => (by cases hd),?_,?_⟩
      ·simp only [aapp,x1,hxs]
       rw [if_pos (by rw [x2]; simpa using c2)]; rfl
      ·rw [hx0]; exact .ls _ _ _ _ (updR_same _ _ _)
      ·refine hR.new b3 (.inr rfl) (fun κ1 h1 h2 => zaE _ _ _ h1) (.inl ⟨base+j,xs,updR_same _ _ _,zam _ _ _,by omega,fun i hi => ?_⟩) (hR.r.rows.upd _ _ _ _)
       rw [c4 i hi]
       exact x3 i (by omega)
   ·cases h
  ·cases h
 ·split at h
  ·rename_i lit key n2 f2 an2
   split at h
   ·rename_i q g c hel
    obtain ⟨b3,h⟩:=zbQ h
    simp only [Option.some.injEq,Prod.mk.injEq] at h
    obtain ⟨rfl,rfl,rfl,rfl⟩:=h
    obtain ⟨hp1,c2,⟨c3,c4⟩,_⟩:=allP_append.1 hp
    obtain ⟨xs,x1,x2,x3,x4⟩:=elsL_sound hR rx hel hp1
    obtain rfl:=zfc (rl_d rs)
    cases hxs:xs.isEmpty with
    | true => 
     have:xs=[]:=by simpa using hxs
     subst this
     have hn0:n2=0:=by rw [c3,← x2]; rfl
     subst hn0
     refine ⟨.nils,s.h,updR ρ key none,?_,x4,.ls0 _ _ (updR_same _ _ _),?_⟩
     ·simp only [aapp,x1,List.length_nil,Nat.zero_mul]; rfl
     ·exact hR.new b3 (.inl rfl) (fun κ1 h1 h2 => rfl) (.inr ⟨updR_same _ _ _,rfl⟩) hR.r.rows
    | false => 
     refine ⟨.sl (base+j) 0 xs.length,upd s.h (base+j) (some (.row false esz xs)),updR ρ key (some (base+j)),?_,x4,?_,?_⟩
     ·simp only [aapp,x1,hxs]
      rw [if_pos (by rw [x2]; exact c2)]; rfl
     ·rw [c3,← x2]; exact .ls _ _ _ _ (updR_same _ _ _)
     ·refine hR.new b3 (.inr rfl) (fun κ1 h1 h2 => zaE _ _ _ h1) (.inl ⟨base+j,xs,updR_same _ _ _,zam _ _ _,by omega,fun i hi => ?_⟩) (hR.r.rows.upd _ _ _ _)
      rw [c4 i hi]
      exact x3 i (by omega)
   ·cases h
  ·cases h
 ·cases h
end
section
variable {K0:List Nat} {fr:Frm} {ρ0:Rho} {W2:W2L} {base res:Nat} {ρ:Rho} {y:Y} {s:St}
theorem zxD (hR:RY K0 fr ρ0 W2 base res ρ y s) {dr:Bool} {gd:List (Nat×Bool)} {an an':List An} {op:AOp} {lv:LV} {y':Y} {p:List Prop}
  (h:ex K0 W2 res dr gd y an op=some (lv,y',p,an')) (hp:AllP p):ExOk K0 fr ρ0 W2 base res s dr op lv y':=by
 have ev:=fun x => evL_sound hR.r.t x
 cases op <;> simp only [ex] at h
 case mov x => 
  simp only [Option.some.injEq,Prod.mk.injEq] at h
  obtain ⟨rfl,rfl,rfl,rfl⟩:=h
  exact ExOk.pure hR rfl (fun _ => trivial) (ev x)
 case asg x => 
  simp only [Option.some.injEq,Prod.mk.injEq] at h
  obtain ⟨rfl,rfl,rfl,rfl⟩:=h
  exact ExOk.pure hR rfl (fun _ => trivial) (ev x)
 case pick c a b => 
  obtain ⟨r,hr,e⟩:=Option.map_eq_some_iff.1 h
  simp only [Prod.mk.injEq] at e
  obtain ⟨rfl,rfl,rfl,rfl⟩:=e
  obtain ⟨q,e1,e2⟩:=pkL_sound (ev c) (ev a) (ev b) hr hp
  exact ExOk.pure hR (by simp only [aval,e1]) (fun _ => trivial) e2
 case alloc j c zs => 
  split at h
  ·obtain ⟨hb,h'⟩:=zbQ h
   simp only [Bool.and_eq_true] at hb
   simp only [Option.some.injEq,Prod.mk.injEq] at h'
   obtain ⟨rfl,rfl,rfl,rfl⟩:=h'
   rename_i key _
   refine ⟨_,_,updR ρ key (some (base+j)),rfl,fun _ => trivial,.p _ _ _ (updR_same _ _ _),?_⟩
   refine hR.new hb.2 (.inr rfl) (fun κ h1 _ => zaE _ _ _ h1) ⟨base+j,zs,updR_same _ _ _,?_,zL_sound hb.1⟩ (hR.r.rows.upd _ _ _ _)
   rw [zam]; simp [zF]
  ·cases h
 case box j c x => 
  split at h
  ·obtain ⟨hb,h'⟩:=zbQ h
   simp only [Bool.and_eq_true,zdC] at hb
   obtain ⟨b1,b2,b3⟩:=hb
   simp only [Option.some.injEq,Prod.mk.injEq] at h'
   obtain ⟨rfl,rfl,rfl,rfl⟩:=h'
   rename_i key _
   obtain ⟨q1,q2⟩:=cellsV_sound (ev x) b2
   refine ⟨.ptr (base+j) 0 0,upd s.h (base+j) (some (.row false (cellsL (evX s.t x)).length [cellsL (evX s.t x)])),updR ρ key (some (base+j)),?_,fun _ => trivial,.p _ _ _ (updR_same _ _ _),?_⟩
   ·simp only [aval,bval]
    rw [if_pos ⟨by rw [q1.1]; exact b1,q2⟩]
   ·refine hR.new b3 (.inr rfl) (fun κ h1 _ => zaE _ _ _ h1) ⟨base+j,cellsL (evX s.t x),updR_same _ _ _,?_,scrL_sound q1⟩ (hR.r.rows.upd _ _ _ _)
    rw [zam,scrL_map,List.length_map,q1.1]
  ·cases h
 case build c zs ps => 
  obtain ⟨hb,h'⟩:=zbQ h
  obtain ⟨cs,hcs,e⟩:=Option.map_eq_some_iff.1 h'
  simp only [Prod.mk.injEq] at e
  obtain ⟨rfl,rfl,rfl,rfl⟩:=e
  obtain ⟨r',q1,q2⟩:=fillL_sound hR.r.t ps (zL_sound (ρ:=ρ) hb) hcs
  exact ExOk.pure hR (av:=.agg r') (by simp only [aval,q1]; rfl) (fun _ => trivial) (.agg _ _ q2.1 q2.2)
 case bslice j c zs n ps => 
  split at h
  ·split at h
   ·rename_i key n2 f2 _ _ es hes
    obtain ⟨hb,h'⟩:=zbQ h
    simp only [Bool.and_eq_true,Nat.beq_eq] at hb
    obtain ⟨b1,b2,rfl⟩:=hb
    simp only [Option.some.injEq,Prod.mk.injEq] at h'
    obtain ⟨rfl,rfl,rfl,rfl⟩:=h'
    obtain ⟨r',q1,q2⟩:=fillF_sound hR.r.t zs.length ps (zR_sound b1 n2) hes
    have hlen:r'.length=n2:=by
     have key2:∀ (ps:List (Nat×AV)) (e0 r0:List (List AV)),afillE zs.length e0 ps=some r0→r0.length=e0.length:=by
      intro ps
      induction ps with
      | nil => intro e0 r0 h; obtain rfl:=Option.some.inj h; rfl
      | cons p ps ih => 
       intro e0 r0 h
       simp only [afillE] at h
       split at h
       ·have:=ih _ _ h; simpa using this
       ·cases h
     have:=key2 _ _ _ q1
     simpa using this
    refine ⟨.sl (base+j) 0 n2,upd s.h (base+j) (some (.row false zs.length r')),updR ρ key (some (base+j)),?_,fun _ => trivial,.ls _ _ _ _ (updR_same _ _ _),?_⟩
    ·simp only [aval,q1]; rfl
    ·refine hR.new b2 (.inr rfl) (fun κ h1 _ => zaE _ _ _ h1) (.inl ⟨base+j,r',updR_same _ _ _,zam _ _ _,by omega,fun i hi => ?_⟩) (hR.r.rows.upd _ _ _ _)
     obtain ⟨c1,c2⟩:=hp.1 i hi
     exact zyp (c1.trans (getD_mapC es i)) c2 (q2.2 i (by rw [← q2.1]; omega))
   ·cases h
  ·cases h
 case load c ag n a => 
  obtain ⟨r,hr,e⟩:=Option.map_eq_some_iff.1 h
  simp only [Prod.mk.injEq] at e
  obtain ⟨rfl,rfl,rfl,rfl⟩:=e
  obtain ⟨av,q1,q2,q3⟩:=ldL_sound hR (ev a) hr hp
  exact ExOk.pure hR (by simp only [aval,q1]; rfl) q3 q2
 case store c n a x => exact stL_sound hR h hp
 case nilchk x => 
  have rx:=ev x
  revert h rx
  generalize hv:evL y.t x=v
  intro h rx
  split at h
  ·rename_i cs an2 o
   simp only [Option.some.injEq,Prod.mk.injEq] at h
   obtain ⟨rfl,rfl,rfl,rfl⟩:=h
   obtain ⟨rfl,_⟩:=hp
   have rd:=rl_d rx
   have e:evX s.t x=toA (.pt (some cs)):=by
    generalize evX s.t x=a at rd
    cases rd; rfl
   refine ExOk.pure hR (av:=.fptr (cs.map toA)) ?_ (fun _ => trivial) (.d _ _ ?_)
   ·simp only [aval,e,toA,toAL_map]
   ·have:=RD.c (.fp cs) rfl
    simpa [toA,toAL_map] using this
  ·obtain ⟨hb,h'⟩:=zbQ h
   simp only [Option.some.injEq,Prod.mk.injEq] at h'
   obtain ⟨rfl,rfl,rfl,rfl⟩:=h'
   refine ExOk.pure hR (av:=evX s.t x) ?_ (fun _ => trivial) rx
   have:=nilOk_sound rx hb
   simp only [aval]
   revert this
   cases evX s.t x <;> intro this <;> first | rfl | (cases this)
 case bin op tk c x z => 
  obtain ⟨r,hr,e⟩:=Option.map_eq_some_iff.1 h
  simp only [Prod.mk.injEq] at e
  obtain ⟨rfl,rfl,rfl,rfl⟩:=e
  obtain ⟨q1,q2⟩:=abinL_sound (ev x) (ev z) hr hp
  exact ExOk.pure hR (by simp only [aval,q1]; rfl) (fun _ => trivial) (.d _ _ (.c _ q2))
 case un op x => 
  obtain ⟨r,hr,e⟩:=Option.map_eq_some_iff.1 h
  simp only [Prod.mk.injEq] at e
  obtain ⟨rfl,rfl,rfl,rfl⟩:=e
  obtain ⟨q1,q2⟩:=aunF_sound (ev x) hr
  exact ExOk.pure hR (by simp only [aval,q1]; rfl) (fun _ => trivial) (.d _ _ (.c _ q2))
 case convi k c c' x => 
  have:=ev x
  split at h
  ·rename_i k' n hx
   simp only [Option.some.injEq,Prod.mk.injEq] at h
   obtain ⟨rfl,rfl,rfl,rfl⟩:=h
   rw [hx] at this
   have e:=zgJ (rl_d this)
   exact ExOk.pure hR (by simp only [aval,e]; rfl) (fun _ => trivial) (.d _ _ (.c (.int k (k.wrap n)) rfl))
  ·cases h
 case mkif c x => 
  obtain ⟨r,hr,e⟩:=Option.map_eq_some_iff.1 h
  simp only [Prod.mk.injEq] at e
  obtain ⟨rfl,rfl,rfl,rfl⟩:=e
  exact ExOk.pure hR rfl (fun _ => trivial) (.d _ _ (mkifL_sound (ev x) hr))
 case mkfn f caps => 
  simp only [Option.some.injEq,Prod.mk.injEq] at h
  obtain ⟨rfl,rfl,rfl,rfl⟩:=h
  refine ExOk.pure hR rfl (fun _ => trivial) (.func _ _ _ (by simp) (fun i hi => ?_))
  have hi':i<caps.length:=by simpa using hi
  have:=ev caps[i]
  simpa [List.getD_eq_getElem?_getD,hi'] using this
 case fld c i off ag sz x => 
  have:=ev x
  split at h
  ·rename_i cs hx
   obtain ⟨hb,h'⟩:=zbQ h
   rw [Nat.ble_eq] at hb
   obtain ⟨v,hv,e⟩:=Option.map_eq_some_iff.1 h'
   simp only [Prod.mk.injEq] at e
   obtain ⟨rfl,rfl,rfl,rfl⟩:=e
   rw [hx] at this
   obtain ⟨cs',e1,hr⟩:=zwJ this
   obtain ⟨av,q1,q2⟩:=mkL_sound ((hr.drop off).take sz) hv
   refine ExOk.pure hR (av:=av) ?_ (fun _ => trivial) q2
   simp only [aval,e1]
   rw [if_pos (by rw [hr.1]; exact hb),q1]; rfl
  ·rename_i cs hx
   obtain ⟨hb,h'⟩:=zbQ h
   rw [Nat.ble_eq] at hb
   obtain ⟨v,hv,e⟩:=Option.map_eq_some_iff.1 h'
   simp only [Prod.mk.injEq] at e
   obtain ⟨rfl,rfl,rfl,rfl⟩:=e
   rw [hx] at this
   obtain ⟨cs',e1,hr⟩:=zvE (rl_d this)
   have hr2:RLs ρ (cs.map .d) cs':=PW.mapl LV.d hr (fun a b h => .d _ _ h)
   obtain ⟨av,q1,q2⟩:=mkL_sound ((hr2.drop off).take sz) hv
   refine ExOk.pure hR (av:=av) ?_ (fun _ => trivial) q2
   simp only [aval,e1]
   rw [if_pos (by rw [hr.1]; exact hb),q1]; rfl
  ·cases h
 case faddr c i off a => 
  obtain ⟨r,hr,e⟩:=Option.map_eq_some_iff.1 h
  simp only [Prod.mk.injEq] at e
  obtain ⟨rfl,rfl,rfl,rfl⟩:=e
  obtain ⟨av,q1,q2⟩:=faL_sound (s:=s) (ev a) hr
  exact ExOk.pure hR q1 (fun _ => trivial) q2
 case iaddr c esz x i => 
  split at h
  ·obtain ⟨r,hr,e⟩:=Option.map_eq_some_iff.1 h
   simp only [Prod.mk.injEq] at e
   obtain ⟨rfl,rfl,rfl,rfl⟩:=e
   obtain ⟨av,q1,q2,q3⟩:=iaE_sound (s:=s) (base:=base) (dr:=dr) (ev x) (ev i) hr hp
   exact ExOk.pure hR (by simp only [aval,q1]; rfl) q3 q2
  ·obtain ⟨r,hr,e⟩:=Option.map_eq_some_iff.1 h
   simp only [Prod.mk.injEq] at e
   obtain ⟨rfl,rfl,rfl,rfl⟩:=e
   obtain ⟨av,q1,q2,q3⟩:=iaL_sound hR (ev x) (ev i) hr hp
   exact ExOk.pure hR (by simp only [aval,q1]; rfl) q3 q2
 case idxA c n ag esz x i => 
  have r1:=ev x
  have r2:=ev i
  split at h
  ·split at h
   ·rename_i v an2 _ _ cs k' i' hx hi
    obtain ⟨hb,h'⟩:=zbQ h
    simp only [Bool.and_eq_true,Bool.not_eq_true',Nat.beq_eq,Nat.ble_eq] at hb
    obtain ⟨rfl,rfl,b3⟩:=hb
    simp only [Option.some.injEq,Prod.mk.injEq] at h'
    obtain ⟨rfl,rfl,rfl,rfl⟩:=h'
    rw [hx] at r1
    rw [hi] at r2
    obtain ⟨cs',e1,hr⟩:=zvE (rl_d r1)
    have e2:=zgJ (rl_d r2)
    obtain ⟨⟨c1,c2⟩,c3,_⟩:=hp
    have hlt:i'.toNat<cs.length:=by omega
    have hlt':i'.toNat<cs'.length:=by rw [hr.1]; exact hlt
    refine ExOk.pure hR (av:=cs'.getD i'.toNat .undef) ?_ (fun _ => trivial) (.d _ _ (by rw [← c3]; exact hr.2 _ hlt))
    simp only [aval,e1,e2]
    rw [if_pos ⟨c1,c2,by omega⟩]
    have e3:(cs'.drop (i'.toNat * 1)).take 1=[cs'.getD i'.toNat .undef]:=by
     rw [Nat.mul_one,List.getD_eq_getElem?_getD,List.getElem?_eq_getElem hlt',List.drop_eq_getElem_cons hlt']
     rfl
    rw [e3]; rfl
   ·cases h
  ·cases h
 case idxS c x i => 
  have r1:=ev x
  have r2:=ev i
  split at h
  ·rename_i b k' i' hx hi
   simp only [Option.some.injEq,Prod.mk.injEq] at h
   obtain ⟨rfl,rfl,rfl,rfl⟩:=h
   rw [hx] at r1
   rw [hi] at r2
   have e1:=zuq (rl_d r1)
   have e2:=zgJ (rl_d r2)
   obtain ⟨⟨c1,c2⟩,_⟩:=hp
   refine ExOk.pure hR (av:=.int .u8 (btS b i')) ?_ (fun _ => trivial) (.d _ _ (.c (.int .u8 (btS b i')) rfl))
   simp only [aval,e1,e2]
   rw [if_pos c1]
   have hlt:i'.toNat<b.size:=by omega
   unfold btS
   rw [getElem?_pos b i'.toNat hlt]
  ·cases h
 case slcS c x lo hi => 
  have r1:=ev x
  split at h
  ·rename_i b hx
   split at h
   ·rename_i g l hg hl
    simp only [Option.some.injEq,Prod.mk.injEq] at h
    obtain ⟨rfl,rfl,rfl,rfl⟩:=h
    rw [hx] at r1
    have e1:=zuq (rl_d r1)
    have eg:=bndF_sound hR.r.t hg
    have el:=bndF_sound hR.r.t hl
    refine ExOk.pure hR (av:=.str (b.extract l.toNat g.toNat)) ?_ (fun _ => trivial) (.d _ _ (.c (.str _) rfl))
    simp only [aval,e1,aslcS,eg,el]
    rw [if_pos hp.1]; rfl
   ·cases h
  ·cases h
 case slc c esz x lo hi => 
  split at h
  ·obtain ⟨r,hr,e⟩:=Option.map_eq_some_iff.1 h
   simp only [Prod.mk.injEq] at e
   obtain ⟨rfl,rfl,rfl,rfl⟩:=e
   obtain ⟨av,q1,q2,q3⟩:=slL_sound hR (ev x) hr hp
   exact ExOk.pure hR (by simp only [aval,q1]; rfl) q3 q2
  ·cases h
 case lenS c x => 
  have r1:=ev x
  split at h
  ·rename_i b hx
   simp only [Option.some.injEq,Prod.mk.injEq] at h
   obtain ⟨rfl,rfl,rfl,rfl⟩:=h
   rw [hx] at r1
   have e1:=zuq (rl_d r1)
   exact ExOk.pure hR (by simp only [aval,e1]; rfl) (fun _ => trivial) (.d _ _ (.c (.int .i64 b.size) rfl))
  ·cases h
 case len c x => 
  obtain ⟨r,hr,e⟩:=Option.map_eq_some_iff.1 h
  simp only [Prod.mk.injEq] at e
  obtain ⟨rfl,rfl,rfl,rfl⟩:=e
  exact ExOk.pure hR (lenL_sound (s:=s) (ev x) hr) (fun _ => trivial) (.d _ _ (.c (.int .i64 r) rfl))
 case app j c esz bytes x z => 
  have r1:=ev x
  have r2:=ev z
  have go:∀ {dr':Bool},(dr=true→dr'=true∨True)→apL K0 W2 res false j esz bytes y (evL y.t x) (evL y.t z) an=some (lv,y',p,an')→ExOk K0 fr ρ0 W2 base res s dr (.app j c esz bytes x z) lv y':=by
   intro dr' _ h2
   obtain ⟨av,h',ρ',q1,q2,q3,q4⟩:=apL_sound hR r1 r2 h2 hp
   exact ⟨av,h',ρ',q1,fun _ => trivial,q3,q4⟩
  split at h
  ·rename_i hx
   obtain ⟨hb,h'⟩:=zbQ h
   have hd:dr=false:=by simpa using hb
   subst hd
   rw [← hx] at h'
   exact go (dr':=false) (fun _ => .inr trivial) h'
  ·exact go (dr':=false) (fun _ => .inr trivial) h
 case appN j c esz bytes x z => 
  have r1:=ev x
  have r2:=ev z
  split at h
  ·rename_i hx
   rw [hx] at r1
   obtain ⟨av,h',ρ',q1,q2,q3,q4⟩:=apL_sound hR r1 r2 h hp
   have e1:=zfc (rl_d r1)
   refine ⟨av,h',ρ',?_,q2,q3,q4⟩
   rw [e1] at q1
   simp only [aval,e1]; exact q1
  ·cases h
 case mm mx c c2 x z => 
  have r1:=ev x
  have r2:=ev z
  split at h
  ·rename_i k a k' b hx hz
   simp only [Option.some.injEq,Prod.mk.injEq] at h
   obtain ⟨rfl,rfl,rfl,rfl⟩:=h
   rw [hx] at r1
   rw [hz] at r2
   have e1:=zgJ (rl_d r1)
   have e2:=zgJ (rl_d r2)
   refine ExOk.pure hR (av:=.int k (match mx with | true => mxI a b | false => mnI a b)) ?_ (fun _ => trivial) (.d _ _ (.c (.int k _) rfl))
   simp only [aval,e1,e2,amm]
   cases mx <;> rfl
  ·cases h
 case ext x i => 
  obtain ⟨r,hr,e⟩:=Option.map_eq_some_iff.1 h
  simp only [Prod.mk.injEq] at e
  obtain ⟨rfl,rfl,rfl,rfl⟩:=e
  obtain ⟨vs,e1,q1,q2⟩:=extL_sound (ev x) hr
  refine ExOk.pure hR (av:=vs.getD i .undef) ?_ (fun _ => trivial) q2
  simp only [aval,e1]
  rw [if_pos q1]
 case x o => 
  cases o <;> simp only [ex] at h <;> first | (cases h; done) | skip
  ·rename_i c x
   have r1:=ev x
   split at h
   ·rename_i hx
    simp only [Option.some.injEq,Prod.mk.injEq] at h
    obtain ⟨rfl,rfl,rfl,rfl⟩:=h
    rw [hx] at r1
    have e1:=zfc (rl_d r1)
    exact ExOk.pure hR (by simp only [aval,xval,e1]; rfl) (fun _ => trivial) (.d _ _ (.c (.int .i64 0) rfl))
   ·cases h
  ·rename_i j c ci bytes zs x n
   have r1:=ev x
   have r2:=ev n
   split at h
   ·rename_i q key an2 hx hn
    obtain ⟨hb,h'⟩:=zbQ h
    simp only [Bool.and_eq_true] at hb
    obtain ⟨b1,b2⟩:=hb
    simp only [Option.some.injEq,Prod.mk.injEq] at h'
    obtain ⟨rfl,rfl,rfl,rfl⟩:=h'
    obtain ⟨⟨c1,c2⟩,_⟩:=hp
    rw [hx] at r1
    rw [hn] at r2
    have e1:=zfc (rl_d r1)
    have e2:=zgJ (rl_d r2)
    by_cases h0:q=0
    ·subst h0
     refine ⟨.nils,s.h,updR ρ key none,?_,fun _ => trivial,.ls0 _ _ (updR_same _ _ _),?_⟩
     ·simp only [aval,xval,e1,e2]
      rw [if_pos ⟨c1,c2⟩]; rfl
     ·exact hR.new b2 (.inl rfl) (fun κ1 h1 h2 => rfl) (.inr ⟨updR_same _ _ _,rfl⟩) hR.r.rows
    ·refine ⟨.sl (base+j) 0 q.toNat,upd s.h (base+j) (some (.row false zs.length (List.replicate q.toNat zs))),updR ρ key (some (base+j)),?_,fun _ => trivial,.ls _ _ _ _ (updR_same _ _ _),?_⟩
     ·simp only [aval,xval,e1,e2]
      rw [if_pos ⟨c1,c2⟩,if_neg h0]
     ·refine hR.new b2 (.inr rfl) (fun κ1 h1 h2 => zaE _ _ _ h1) (.inl ⟨base+j,_,updR_same _ _ _,zam _ _ _,by simp,fun i hi => ?_⟩) (hR.r.rows.upd _ _ _ _)
      have e3:(List.replicate q.toNat zs).getD i []=zs:=by simp [List.getD_eq_getElem?_getD,hi]
      rw [e3]; exact zF_sound b1
   ·cases h
 all_goals cases h
end
theorem zeL {ks:List Nat} {k:Nat}:ks.any (Nat.beq k)=true↔k∈ks:=by
 simp
mutual
def inK (ks:List Nat):LV→Bool
 | .p k _ => ks.any (Nat.beq k)
 | .ep k _ _ => ks.any (Nat.beq k)
 | .ls k _ _ => ks.any (Nat.beq k)
 | .mapk k => ks.any (Nat.beq k)
 | .agg cs => inKL ks cs
 | .tup cs => inKL ks cs
 | .func _ cs => inKL ks cs
 | .undef => true | .hole => true | .d _ => true
def inKL (ks:List Nat):List LV→Bool
 | [] => true
 | v :: l => inK ks v&&inKL ks l
end
theorem inKL_iff {ks:List Nat} {l:List LV}:inKL ks l=true↔∀ v∈l,inK ks v=true:=by
 induction l with
 | nil => simp [inKL]
 | cons v l ih => simp [inKL,ih]
def inKH (ks:List Nat):List (Nat×Ob)→Bool
 | [] => true
 | (k,.st _ cs) :: l => ks.any (Nat.beq k)&&(inKL ks cs&&inKH ks l)
 | (k,.sl _ _ _ _) :: l => ks.any (Nat.beq k)&&inKH ks l
theorem zwI {ρ ρ':Rho} {ks:List Nat} (he:∀ k∈ks,ρ' k=ρ k) {v:LV} {a:AV} (r:RL ρ v a) (h:inK ks v=true):RL ρ' v a:=by
 induction r with
 | undef a => exact .undef _
 | hole => exact .hole
 | d v a hv => exact .d _ _ hv
 | p k o κ e => exact .p _ _ _ (by rw [he k (zeL.1 h)]; exact e)
 | ep k i o κ e => exact .ep _ _ _ _ (by rw [he k (zeL.1 h)]; exact e)
 | ls k lo n κ e => exact .ls _ _ _ _ (by rw [he k (zeL.1 h)]; exact e)
 | ls0 k lo e => exact .ls0 _ _ (by rw [he k (zeL.1 h)]; exact e)
 | mapk k κ e => exact .mapk _ _ (by rw [he k (zeL.1 h)]; exact e)
 | agg cs cs' hl hc ih => 
  refine .agg _ _ hl fun i hi => ih i hi ?_
  rw [List.getD_eq_getElem?_getD,List.getElem?_eq_getElem hi]
  exact inKL_iff.1 h _ (List.getElem_mem hi)
 | tup cs cs' hl hc ih => 
  refine .tup _ _ hl fun i hi => ih i hi ?_
  rw [List.getD_eq_getElem?_getD,List.getElem?_eq_getElem hi]
  exact inKL_iff.1 h _ (List.getElem_mem hi)
 | func f cs cs' hl hc ih => 
  refine .func _ _ _ hl fun i hi => ih i hi ?_
  rw [List.getD_eq_getElem?_getD,List.getElem?_eq_getElem hi]
  exact inKL_iff.1 h _ (List.getElem_mem hi)
theorem zxu {ρ ρ':Rho} {ks:List Nat} (he:∀ k∈ks,ρ' k=ρ k) {v:List LV} {a:List AV} (r:RLs ρ v a) (h:inKL ks v=true):RLs ρ' v a:=
 ⟨r.1,fun i hi => zwI he (r.2 i hi) (by
  rw [List.getD_eq_getElem?_getD,List.getElem?_eq_getElem hi]
  exact inKL_iff.1 h _ (List.getElem_mem hi))⟩
theorem inKH_iff {ks:List Nat}:∀ {h:List (Nat×Ob)},inKH ks h=true→∀ k o,lkO h k=some o→k∈ks∧(∀ ro cs,o=.st ro cs→inKL ks cs=true)
 | [],hh,k,o,e => by cases e
 | (j,q) :: l,hh,k,o,e => by
  cases q with
  | st ro cs => 
   simp only [inKH,Bool.and_eq_true] at hh
   obtain ⟨h1,h2,h3⟩:=hh
   simp only [lkO] at e
   by_cases ej:k=j
   ·subst ej
    rw [beqT,cond_true] at e
    obtain rfl:=Option.some.inj e
    exact ⟨zeL.1 h1,fun ro' cs' e => by cases e; exact h2⟩
   ·rw [beqF ej,cond_false] at e
    exact inKH_iff h3 k o e
  | sl ro esz n f => 
   simp only [inKH,Bool.and_eq_true] at hh
   obtain ⟨h1,h3⟩:=hh
   simp only [lkO] at e
   by_cases ej:k=j
   ·subst ej
    rw [beqT,cond_true] at e
    obtain rfl:=Option.some.inj e
    exact ⟨zeL.1 h1,fun ro' cs' e => by cases e⟩
   ·rw [beqF ej,cond_false] at e
    exact inKH_iff h3 k o e
theorem zxY {ρ ρ':Rho} {h:Hp} {ks:List Nat} (he:∀ k∈ks,ρ' k=ρ k) {k:Nat} {o:Ob} (r:RO ρ h k o) (hk:k∈ks) (hc:∀ ro cs,o=.st ro cs→inKL ks cs=true):RO ρ' h k o:=by
 cases o with
 | st ro cs => 
  obtain ⟨κ,cs',h1,h2,h3⟩:=r
  exact ⟨κ,cs',by rw [he k hk]; exact h1,h2,zxu he h3 (hc ro cs rfl)⟩
 | sl ro esz n f => 
  rcases r with ⟨κ,es,h1,h2⟩ | ⟨h1,h2⟩
  ·exact .inl ⟨κ,es,by rw [he k hk]; exact h1,h2⟩
  ·exact .inr ⟨by rw [he k hk]; exact h1,h2⟩
structure CSEnd (H:List (Nat×Ob)) (hn st:List Nat) (ρ:Rho) (h:Hp) (n:Nat) (R:LV→List (Nat×Ob)→Prop) (r:AV) (h':Hp) (n':Nat):Prop where
 ex:∃ lv H' ρ',R lv H'∧inK (H.map (·.1)++hn) lv=true∧inKH (H.map (·.1)++hn) H'=true∧RL ρ' lv r∧(∀ k o,lkO H' k=some o→RO ρ' h' k o) ∧
  (∀ k k' κ,(lkO H' k).isSome=true→(lkO H' k').isSome=true→ρ' k=some κ→ρ' k'=some κ→k=k')∧(∀ k κ,(lkO H' k).isSome=true→ρ' k=some κ→κ<n') ∧
  (∀ k κ,(lkO H' k).isSome=true→ρ' k=some κ→(∃ k0,(lkO H k0).isSome=true∧ρ k0=some κ)∨n≤κ)∧∀ k∈st,ρ' k=ρ k
 fr:∀ κ,κ<n→(∀ k,(lkO H k).isSome=true→ρ k≠some κ)→h' κ=h κ
 le:n≤n'
 rows:AllR h'
def CM (E:Env) (f:Nat) (args:List LV) (H:List (Nat×Ob)) (hn st:List Nat) (R:LV→List (Nat×Ob)→Prop):Prop:=
 ∀ (ρ:Rho) (h:Hp) (n:Nat) (asx:List AV),(∀ k o,lkO H k=some o→RO ρ h k o)→(∀ k k' κ,(lkO H k).isSome=true→(lkO H k').isSome=true→ρ k=some κ→ρ k'=some κ→k=k') →
  (∀ k κ,(lkO H k).isSome=true→ρ k=some κ→κ<n)→RLs ρ args asx→AllR h→ACallS E f asx h n (CSEnd H hn st ρ h n R)
theorem CM.mono {E:Env} {f:Nat} {args:List LV} {H:List (Nat×Ob)} {hn st:List Nat} {R R':LV→List (Nat×Ob)→Prop} (c:CM E f args H hn st R) (hr:∀ lv H',R lv H'→R' lv H'):CM E f args H hn st R':=
 fun ρ h n asx a b d e g => (c ρ h n asx a b d e g).mono fun r h' n' k => by
  obtain ⟨lv,H',ρ',k1,k2⟩:=k.ex
  exact ⟨⟨lv,H',ρ',hr _ _ k1,k2⟩,k.fr,k.le,k.rows⟩
def scrTs:List Nat→List (Nat×LV)→List (Nat×LV)
 | [],t => t
 | k :: ks,t => scrT k (scrTs ks t)
def scrHs:List Nat→List (Nat×Ob)→List (Nat×Ob)
 | [],h => h
 | k :: ks,h => scrH k (scrHs ks h)
def delH (ks:List Nat):List (Nat×Ob)→List (Nat×Ob)
 | [] => []
 | (k,o) :: l => bif ks.any (Nat.beq k) then delH ks l else (k,o) :: delH ks l
theorem delH_lk (ks:List Nat):∀ (h:List (Nat×Ob)) (k:Nat),lkO (delH ks h) k=if k∈ks then none else lkO h k
 | [],k => by simp [delH,lkO]
 | (j,o) :: l,k => by
  simp only [delH]
  by_cases hj:j∈ks
  ·rw [zeL.2 hj,cond_true,delH_lk ks l k]
   simp only [lkO]
   by_cases e:k=j
   ·subst e; rw [if_pos hj,if_pos hj]
   ·rw [beqF e]; rfl
  ·have:ks.any (Nat.beq j)=false:=by
    cases e:ks.any (Nat.beq j) with
    | false => rfl
    | true => exact absurd (zeL.1 e) hj
   rw [this,cond_false]
   simp only [lkO]
   by_cases e:k=j
   ·subst e; rw [beqT,if_neg hj]; rfl
   ·rw [beqF e,cond_false,cond_false,delH_lk ks l k]
theorem zyo {ρ:Rho} {ρ2:Rho} (ks:List Nat) (he:∀ k,k ∉ ks→ρ2 k=ρ k) {t:List (Nat×LV)} {u:Nat→AV} (h:∀ i,RL ρ (lkT t i) (u i)):∀ i,RL ρ2 (lkT (scrTs ks t) i) (u i):=by
 induction ks generalizing ρ2 with
 | nil => 
  intro i
  have:ρ2=ρ:=funext fun k => he k (by simp)
  rw [this]; exact h i
 | cons k ks ih => 
  intro i
  have h1:=ih (ρ2:=updR ρ2 k (ρ k)) (fun k' hk' => by
   by_cases e:k'=k
   ·subst e; rw [updR_same]
   ·rw [updR_ne _ _ e]; exact he k' (by simp [e,hk']))
  have h2:=zmp (k:=k) (x:=ρ2 k) (h1 i)
  have e:updR (updR ρ2 k (ρ k)) k (ρ2 k)=ρ2:=by
   funext j
   by_cases e:j=k
   ·subst e; rw [updR_same]
   ·rw [updR_ne _ _ e,updR_ne _ _ e]
  rw [e] at h2
  rw [scrTs,scrT_lk]; exact h2
theorem zyn {ρ ρ2:Rho} {hp hp':Hp} (ks:List Nat) (he:∀ k,k ∉ ks→ρ2 k=ρ k) {h:List (Nat×Ob)} (ho:∀ k o,lkO h k=some o→RO ρ hp k o) (hs:∀ k κ,k ∉ ks→(lkO h k).isSome=true→ρ k=some κ→hp' κ=hp κ) :
  ∀ k o,lkO (scrHs ks h) k=some o→RO ρ2 hp' k o∧k ∉ ks∧(lkO h k).isSome=true:=by
 classical
 induction ks generalizing ρ2 hp' with
 | nil => 
  intro k o hk
  have:ρ2=ρ:=funext fun k => he k (by simp)
  rw [this]
  have r:=ho k o hk
  have hi:(lkO h k).isSome=true:=by have:lkO h k=some o:=hk; rw [this]; rfl
  refine ⟨?_,by simp,hi⟩
  cases o with
  | st ro cs => 
   obtain ⟨κ,cs',h1,h2,h3⟩:=r
   exact ⟨κ,cs',h1,(hs k κ (by simp) hi h1).trans h2,h3⟩
  | sl ro esz n f => 
   rcases r with ⟨κ,es,h1,h2,h3⟩ | r
   ·exact .inl ⟨κ,es,h1,(hs k κ (by simp) hi h1).trans h2,h3⟩
   ·exact .inr r
 | cons k0 ks ih => 
  intro k o hk
  rw [scrHs,scrH_lk] at hk
  split at hk
  ·cases hk
  ·rename_i hne
   obtain ⟨o1,ho1,rfl⟩:=Option.map_eq_some_iff.1 hk
   have key:=ih (ρ2:=updR ρ2 k0 (ρ k0)) (hp':=fun κ => if (∃ k',(k'=k0∧k' ∉ ks)∧(lkO h k').isSome=true∧ρ k'=some κ)∧¬ ∃ k',k' ∉ k0 :: ks∧(lkO h k').isSome=true∧ρ k'=some κ then hp κ else hp' κ) (fun k' hk' => by
    by_cases e:k'=k0
    ·subst e; rw [updR_same]
    ·rw [updR_ne _ _ e]; exact he k' (by simp [e,hk'])) (fun k' κ hk' hs' e => by
    split
    ·rfl
    ·rename_i hc
     by_cases e0:k'=k0
     ·apply Classical.byContradiction
      intro hne2
      apply hc
      refine ⟨⟨k',⟨e0,hk'⟩,hs',e⟩,?_⟩
      rintro ⟨k2,h2,h3,h4⟩
      exact hne2 (hs k2 κ h2 h3 h4)
     ·exact hs k' κ (by simp [e0,hk']) hs' e) k o1 ho1
   obtain ⟨q1,q2,q3⟩:=key
   refine ⟨?_,by simp [hne,q2],q3⟩
   have h2:=RO.other (k:=k0) (x:=ρ2 k0) (h':=hp') q1 hne (fun κ hκ => by
    rw [if_neg]
    rintro ⟨_,h5⟩
    apply h5
    have e1:updR ρ2 k0 (ρ k0) k=ρ2 k:=updR_ne _ _ hne
    rw [e1] at hκ
    refine ⟨k,by simp [hne,q2],q3,?_⟩
    rw [← he k (by simp [hne,q2])]; exact hκ)
   have e:updR (updR ρ2 k0 (ρ k0)) k0 (ρ2 k0)=ρ2:=by
    funext j
    by_cases e:j=k0
    ·subst e; rw [updR_same]
    ·rw [updR_ne _ _ e,updR_ne _ _ e]
   rw [e] at h2
   exact h2
def appH:List (Nat×Ob)→List (Nat×Ob)→List (Nat×Ob)
 | [],h => h
 | p :: l,h => p :: appH l h
theorem appH_lk:∀ (a b:List (Nat×Ob)) (k:Nat),lkO (appH a b) k=match lkO a k with | some o => some o | none => lkO b k
 | [],b,k => rfl
 | (j,o) :: l,b,k => by
  simp only [appH,lkO]
  cases Nat.beq k j with
  | true => rfl
  | false => exact appH_lk l b k
def pickH (h:List (Nat×Ob)):List Nat→Option (List (Nat×Ob))
 | [] => some []
 | k :: ks => match lkO h k,pickH h ks with
  | some o,some l => some ((k,o) :: l)
  | _,_ => none
theorem pickH_spec {h:List (Nat×Ob)}:∀ {hk:List Nat} {H:List (Nat×Ob)},pickH h hk=some H→H.map (·.1)=hk∧(∀ k o,lkO H k=some o→k∈hk∧lkO h k=some o)∧∀ k,k∈hk→(lkO H k).isSome=true
 | [],H,e => by
  obtain rfl:=Option.some.inj e
  exact ⟨rfl,fun k o hk => (by cases hk),fun k hk => (by cases hk)⟩
 | j :: ks,H,e => by
  simp only [pickH] at e
  split at e
  ·rename_i o l ho hl
   obtain rfl:=Option.some.inj e
   obtain ⟨q1,q2,q3⟩:=pickH_spec hl
   refine ⟨by simp [q1],fun k o' hk => ?_,fun k hk => ?_⟩
   ·simp only [lkO] at hk
    by_cases e:k=j
    ·subst e
     rw [beqT,cond_true] at hk
     obtain rfl:=Option.some.inj hk
     exact ⟨by simp,ho⟩
    ·rw [beqF e,cond_false] at hk
     obtain ⟨a,b⟩:=q2 k o' hk
     exact ⟨by simp [a],b⟩
   ·simp only [lkO]
    by_cases e:k=j
    ·subst e; rw [beqT]; rfl
    ·rw [beqF e,cond_false]
     rcases List.mem_cons.1 hk with h | h
     ·exact absurd h e
     ·exact q3 k h
  ·cases e
def ksOf (hk hn st:List Nat):List Nat:=hk.filter (fun k => !st.any (Nat.beq k))++hn
def callOk (K0 hk hn st:List Nat):Bool:=hn.all (fun k => !hk.any (Nat.beq k))&&K0.all (fun k => !(ksOf hk hn st).any (Nat.beq k))
def callY (y:Y) (hk hn st:List Nat) (H':List (Nat×Ob)):Y:=⟨scrTs (ksOf hk hn st) y.t,appH H' (scrHs (ksOf hk hn st) (delH hk y.h)),ksOf hk hn st++y.nw,y.us⟩
section
variable {K0:List Nat} {fr:Frm} {ρ0:Rho} {base res:Nat} {ρ:Rho} {y:Y} {s:St}
theorem zyf (hR:RY K0 fr ρ0 [] base res ρ y s) {hk hn st:List Nat} {H:List (Nat×Ob)} (hH:pickH y.h hk=some H) (hst:callOk K0 hk hn st=true) {R:LV→List (Nat×Ob)→Prop} {r:AV} {h':Hp} {n':Nat}
  (c:CSEnd H hn st ρ s.h s.n R r h' n'):∃ lv H' ρ2,R lv H'∧RL ρ2 lv r∧RY K0 fr ρ0 [] base res ρ2 (callY y hk hn st H') ⟨s.t,h',n'⟩:=by
  obtain ⟨⟨lv,H',ρ',e1,e2,e3,e4,e5,e6,e7,e8,e9⟩,e10,e11,e12⟩:=c
  obtain ⟨p1,p2,p3⟩:=pickH_spec hH
  rw [p1] at e2 e3
  simp only [callOk,Bool.and_eq_true,List.all_eq_true] at hst
  obtain ⟨t2,t3⟩:=hst
  generalize hks:ksOf hk hn st=ks at t3
  have mem:∀ k o,lkO H k=some o→k∈hk:=fun k o e => (p2 k o e).1
  have subS:∀ k,(lkO H k).isSome=true→(lkO y.h k).isSome=true:=by
   intro k e
   obtain ⟨o,ho⟩:=Option.isSome_iff_exists.1 e
   rw [(p2 k o ho).2]; rfl
  have hin:=fun k o (hk:lkO H' k=some o) => inKH_iff e3 k o hk
  let ρ2:Rho:=fun k => if k∈hk++hn then ρ' k else ρ k
  have r2in:∀ k,k∈hk++hn→ρ2 k=ρ' k:=fun k hk => by simp only [ρ2,if_pos hk]
  have ksmem:∀ k,k ∉ ks→ρ2 k=ρ k:=by
   intro k hk
   simp only [ρ2]
   split
   ·rename_i hm
    rcases List.mem_append.1 hm with hm | hm
    ·have:k∈st:=by
      apply Classical.byContradiction
      intro hns
      apply hk
      rw [← hks,ksOf]
      refine List.mem_append.2 (.inl (List.mem_filter.2 ⟨hm,?_⟩))
      simp only [Bool.not_eq_true']
      cases e:st.any (Nat.beq k) with
      | false => rfl
      | true => exact absurd (zeL.1 e) hns
     exact e9 k this
    ·exact absurd (by rw [← hks,ksOf]; exact List.mem_append.2 (.inr hm)) hk
   ·rfl
  have delIn:∀ k,(lkO (delH (hk) y.h) k).isSome=true→k ∉ hk∧(lkO y.h k).isSome=true:=by
   intro k hk
   rw [delH_lk] at hk
   split at hk
   ·cases hk
   ·rename_i h; exact ⟨h,hk⟩
  have rest:=zyn (ρ:=ρ) (ρ2:=ρ2) (hp:=s.h) (hp':=h') ks ksmem (h:=delH (hk) y.h) (fun k o hk => by
   rw [delH_lk] at hk
   split at hk
   ·cases hk
   ·exact hR.r.o k o hk) (fun k κ hk hs e => by
   obtain ⟨h1,h2⟩:=delIn k hs
   refine e10 κ (hR.r.lt k κ h2 e) (fun k0 hk0 e0 => h1 ?_)
   have:=hR.r.inj k k0 κ h2 (subS k0 hk0) e e0
   subst this
   obtain ⟨o,ho⟩:=Option.isSome_iff_exists.1 hk0
   exact mem k o ho)
  have lkS:∀ k,(lkO (appH H' (scrHs ks (delH (hk) y.h))) k).isSome=true→((lkO H' k).isSome=true∧k∈hk++hn) ∨
    (k ∉ ks∧k ∉ hk∧(lkO y.h k).isSome=true):=by
   intro k hk
   rw [appH_lk] at hk
   split at hk
   ·rename_i o ho
    exact .inl ⟨by rw [ho]; rfl,(hin k o ho).1⟩
   ·obtain ⟨o,ho⟩:=Option.isSome_iff_exists.1 hk
    obtain ⟨_,h2,h3⟩:=rest k o ho
    obtain ⟨h4,h5⟩:=delIn k h3
    exact .inr ⟨h2,h4,h5⟩
  have outk:∀ k,k ∉ ks→k ∉ hk→k ∉ hk++hn:=by
   intro k h1 h2 h3
   rcases List.mem_append.1 h3 with h | h
   ·exact h2 h
   ·exact h1 (by rw [← hks,ksOf]; exact List.mem_append.2 (.inr h))
  have img:∀ k κ,(lkO H' k).isSome=true→ρ' k=some κ→∀ k2,k2 ∉ hk→(lkO y.h k2).isSome=true→ρ k2=some κ→False:=by
   intro k κ hk e k2 h1 h2 e2
   rcases e8 k κ hk e with ⟨k0,q1,q2⟩ | q
   ·have:=hR.r.inj k2 k0 κ h2 (subS k0 q1) e2 q2
    subst this
    obtain ⟨o,ho⟩:=Option.isSome_iff_exists.1 q1
    exact h1 (mem k2 o ho)
   ·have:=hR.r.lt k2 κ h2 e2; omega
  refine ⟨lv,H',ρ2,e1,zwI r2in e4 e2,?_⟩
  rw [callY,hks]
  refine ⟨⟨fun i => ?_,fun k o ho => ?_,fun k k' κ a b ea eb => ?_,fun k κ a ea => ?_,fun κ hd => ?_,fun k κ a ea hd => ?_,?_,fun k hk => ?_,e12⟩,hR.bn,?_,fun k κ a ea => ?_,fun k κ a hn' ea => ?_,fun c hc => (by cases hc)⟩
  ·exact zyo ks ksmem hR.r.t i
  ·rw [appH_lk] at ho
   split at ho
   ·rename_i o1 ho1
    obtain rfl:=Option.some.inj ho
    obtain ⟨q1,q2⟩:=hin k _ ho1
    exact zxY r2in (e5 k _ ho1) q1 q2
   ·exact (rest k o ho).1
  ·rcases lkS k a with ⟨a1,a2⟩ | ⟨a1,a2,a3⟩
   ·rw [r2in k a2] at ea
    rcases lkS k' b with ⟨b1,b2⟩ | ⟨b1,b2,b3⟩
    ·rw [r2in k' b2] at eb
     exact e6 k k' κ a1 b1 ea eb
    ·rw [ksmem k' b1] at eb
     exact (img k κ a1 ea k' b2 b3 eb).elim
   ·rw [ksmem k a1] at ea
    rcases lkS k' b with ⟨b1,b2⟩ | ⟨b1,b2,b3⟩
    ·rw [r2in k' b2] at eb
     exact (img k' κ b1 eb k a2 a3 ea).elim
    ·rw [ksmem k' b1] at eb
     exact hR.r.inj k k' κ a3 b3 ea eb
  ·rcases lkS k a with ⟨a1,a2⟩ | ⟨a1,a2,a3⟩
   ·rw [r2in k a2] at ea; exact e7 k κ a1 ea
   ·rw [ksmem k a1] at ea
    have:=hR.r.lt k κ a3 ea
    simp only; omega
  ·obtain ⟨q1,q2⟩:=hR.r.fm κ hd
   refine ⟨q1,?_⟩
   have hlt:κ<s.n:=by have:=hR.r.n0; omega
   exact (e10 κ hlt (fun k0 hk0 e0 => hR.r.dis k0 κ (subS k0 hk0) e0 hd)).trans q2
  ·rcases lkS k a with ⟨a1,a2⟩ | ⟨a1,a2,a3⟩
   ·rw [r2in k a2] at ea
    rcases e8 k κ a1 ea with ⟨k0,q1,q2⟩ | q
    ·exact hR.r.dis k0 κ (subS k0 q1) q2 hd
    ·have:=(hR.r.fm κ hd).1
     have:=hR.r.n0
     omega
   ·rw [ksmem k a1] at ea; exact hR.r.dis k κ a3 ea hd
  ·have:=hR.r.n0; simp only; omega
  ·have hnk:k ∉ ks:=by
    intro hh
    have:=t3 k hk
    rw [zeL.2 hh] at this; cases this
   rw [ksmem k hnk]; exact hR.r.an k hk
  ·have:=hR.sn; simp only; omega
  ·rcases lkS k a with ⟨a1,a2⟩ | ⟨a1,a2,a3⟩
   ·rw [r2in k a2] at ea
    rcases e8 k κ a1 ea with ⟨k0,q1,q2⟩ | q
    ·exact hR.us k0 κ (subS k0 q1) q2
    ·have:=hR.sn; exact .inr (.inl (by omega))
   ·rw [ksmem k a1] at ea; exact hR.us k κ a3 ea
  ·have hnk:k ∉ ks∧y.nw.contains k=false:=by
    simp at hn'
    exact ⟨hn'.1,by simpa using hn'.2⟩
   have ea':ρ k=some κ:=by rw [← ksmem k hnk.1]; exact ea
   have hs:(lkO y.h k).isSome=true:=by
    rcases lkS k a with ⟨a1,a2⟩ | ⟨a1,a2,a3⟩
    ·have:k∈hk:=by
      rcases List.mem_append.1 a2 with h | h
      ·exact h
      ·exact absurd (by rw [← hks,ksOf]; exact List.mem_append.2 (.inr h)) hnk.1
     exact subS k (p3 k this)
    ·exact a3
   exact hR.nw k κ hs hnk.2 ea'
end
def CF (E:Env) (f:Nat) (vs:List FV) (r:FV):Prop:=ACallP E f (vs.map toA) (toA r)
def setroO:Ob→Ob
 | .st _ cs => .st true cs
 | .sl _ esz n f => .sl true esz n f
def roH (ks:List Nat):List (Nat×Ob)→List (Nat×Ob)
 | [] => []
 | (k,o) :: l => (k,bif ks.any (Nat.beq k) then setroO o else o) :: roH ks l
theorem roH_lk (ks:List Nat):∀ (h:List (Nat×Ob)) (k:Nat),lkO (roH ks h) k=(lkO h k).map fun o => bif ks.any (Nat.beq k) then setroO o else o
 | [],k => rfl
 | (j,o) :: l,k => by
  simp only [roH,lkO]
  by_cases e:k=j
  ·subst e; rw [beqT]; rfl
  ·rw [beqF e]; simpa using roH_lk ks l k
def kfF:FV→Bool
 | .bool _ | .int _ _ | .str _ | .nilp | .nils | .nilf | .nili | .nilm | .sv _ _ | .fp _ | .err _ _ | .pt _ => true
 | .func _ [] => true
 | .iface _ (.int _ _) | .iface _ (.bool _) | .iface _ (.str _) => true
 | _ => false
theorem kfF_sound {v:FV} {a:AV} (r:RD v a) (h:kfF v=true):kf0 a=true∧nz a=toA v:=by
 cases v with
 | undef => cases h
 | hole => cases h
 | agg => cases h
 | tup => cases h
 | nils => obtain rfl:=zfc r; exact ⟨rfl,rfl⟩
 | sv n f => 
  cases r with
  | c h => exact ⟨rfl,rfl⟩
  | sv0 => exact ⟨rfl,by simp [nz,toA]⟩
 | err c e => 
  cases r
  cases e <;> exact ⟨rfl,rfl⟩
 | pt o => 
  cases r
  cases o <;> exact ⟨rfl,rfl⟩
 | func f cs => 
  cases cs with
  | nil => 
   obtain ⟨cs',rfl,hr⟩:=ztu r
   have:cs'=[]:=List.eq_nil_of_length_eq_zero (by simpa using hr.1)
   subst this; exact ⟨rfl,rfl⟩
  | cons => cases h
 | iface c v => 
  obtain ⟨b,rfl,hr⟩:=zmr r
  cases v <;> first | (cases h; done) | (cases hr; exact ⟨rfl,rfl⟩)
 | bool => cases r; exact ⟨rfl,rfl⟩
 | int => cases r; exact ⟨rfl,rfl⟩
 | str => cases r; exact ⟨rfl,rfl⟩
 | nilp => cases r; exact ⟨rfl,rfl⟩
 | nilf => cases r; exact ⟨rfl,rfl⟩
 | nili => cases r; exact ⟨rfl,rfl⟩
 | nilm => cases r; exact ⟨rfl,rfl⟩
 | fp => cases r; exact ⟨rfl,rfl⟩
def gdRun (gd:List (Nat×Bool)) (y:Y) (g:Option (Nat×Nat×Bool)):Option (Bool×List Prop):=
 match g with
 | none => some (true,[])
 | some (_,d,w) => match lkT y.t d with
  | .hole => some (false,[])
  | .d (.bool c) => match lkG gd d with
   | some b => some (b==w,[c=b])
   | none => some (c==w,[])
  | _ => none
theorem getD_mapL (es:List (List FV)) (i:Nat):(es.map toAL).getD i []=toAL (es.getD i []):=by
 rw [List.getD_eq_getElem?_getD,List.getElem?_map,List.getD_eq_getElem?_getD]
 cases es[i]? <;> rfl
def exC (E:Env) (K0:List Nat) (W2:W2L) (res:Nat) (dr:Bool) (gd:List (Nat×Bool)) (y:Y) (an:List An) (op:AOp):Ex:=
 match op with
 | .bslv _ _ zs n ps => match fillF zs.length (List.replicate n (zF zs)) (ps.map fun p => (p.1,evL y.t p.2)) with
  | some es => match an with
   | .sb n2 f2 :: an => rok (zOk zs&&(es.all (fun c => c.all kfF)&&Nat.beq n2 n)) (some (.d (.sv n2 f2),y,[∀ i,i<n2→toAL (f2 i)=(es.map toAL).getD i []],an))
   | an => rok (zOk zs&&es.all (fun c => c.all kfF)) (some (.d (.sv n fun i => es.getD i []),y,[],an))
  | none => none
 | .callp f args => match an with
  | .r r :: an => match mapF (fz y.h 20) (args.map (evL y.t)) with
   | some (vs,c) => rok (cl r&&(!dr||((args.map (evL y.t)).flatMap (fzK y.h 20)).isEmpty))
     (some (.d r,⟨y.t,roH ((args.map (evL y.t)).flatMap (fzK y.h 20)) y.h,y.nw,y.us⟩,c++[CF E f vs r],an))
   | none => none
  | _ => none
 | .callv g args => match an,(match evL y.t g with | .func f caps => some (f,caps) | .d (.func f caps) => some (f,caps.map .d) | _ => none) with
  | .r r :: an,some (f,caps) => match mapF (fz y.h 20) (args.map (evL y.t)++caps) with
   | some (vs,c) => rok (cl r&&(!dr||((args.map (evL y.t)++caps).flatMap (fzK y.h 20)).isEmpty))
     (some (.d r,⟨y.t,roH ((args.map (evL y.t)++caps).flatMap (fzK y.h 20)) y.h,y.nw,y.us⟩,c++[CF E f vs r],an))
   | none => none
  | _,_ => none
 | .calls f args => match an with
  | .c hk hn st lv H' :: an => match pickH y.h hk with
   | some H => rok (!dr&&(W2.isEmpty&&callOk K0 hk hn st)) (some (lv,callY y hk hn st H',[CM E f (args.map (evL y.t)) H hn st (fun a b => a=lv∧b=H')],an))
   | none => none
  | _ => none
 | op => ex K0 W2 res dr gd y an op
def y1 (E:Env) (K0:List Nat) (W2:W2L) (res:Nat) (dr:Bool) (gd:List (Nat×Bool)) (y:Y) (an:List An) (o:AOper):Option (Y×List Prop×List An):=
 match gdRun gd y o.guard with
 | none => none
 | some (false,c) => some (⟨putL2 o.dst y.t .hole,y.h,y.nw,y.us⟩,c,an)
 | some (true,c) => match exC E K0 W2 res dr gd y an o.op with
  | none => none
  | some (lv,y',c',an') => some (⟨putL2 o.dst y'.t lv,y'.h,y'.nw,y'.us⟩,c++c',an')
def AndL:List Prop→Prop→Prop
 | [],p => p
 | q :: l,p => q∧AndL l p
theorem andL_iff {l:List Prop} {p:Prop}:AndL l p↔AllP l∧p:=by
 induction l with
 | nil => simp [AndL,AllP]
 | cons q l ih => simp [AndL,AllP,ih,and_assoc]
def yL (E:Env) (K0:List Nat) (W2:W2L) (res:Nat) (dr:Bool) (gd:List (Nat×Bool)):List AOper→List An→Y→Option (Y×Prop)
 | [],_,y => some (y,True)
 | o :: r,an,y => match y1 E K0 W2 res dr gd y an o with
   | none => none
   | some (y',c,an') => match yL E K0 W2 res dr gd r an' y' with
    | some (y'',p) => some (y'',AndL c p)
    | none => none
section
variable {E:Env} {K0:List Nat} {fr:Frm} {ρ0:Rho} {W2:W2L} {base res:Nat} {ρ:Rho} {y:Y} {s:St}
theorem RY.mark (hR:RY K0 fr ρ0 W2 base res ρ y s) {ks L:List Nat} (h1:∀ κ,κ∈L↔∃ k∈ks,ρ k=some κ) (h2:∀ k∈ks,(lkO y.h k).isSome=true) :
  RY K0 fr ρ0 W2 base res ρ ⟨y.t,roH ks y.h,y.nw,y.us⟩ ⟨s.t,roAll L s.h,s.n⟩:=by
 have iss:∀ k,(lkO (roH ks y.h) k).isSome=true↔(lkO y.h k).isSome=true:=by
  intro k; rw [roH_lk]; simp
 refine ⟨⟨hR.r.t,fun k o ho => ?_,fun k k' κ a b => hR.r.inj k k' κ ((iss _).1 a) ((iss _).1 b),fun k κ a => hR.r.lt k κ ((iss _).1 a),fun κ hd => ?_,fun k κ a => hR.r.dis k κ ((iss _).1 a),hR.r.n0,hR.r.an,hR.r.rows.ro L⟩,
  hR.bn,hR.sn,fun k κ a => hR.us k κ ((iss _).1 a),fun k κ a => hR.nw k κ ((iss _).1 a),fun c hc => ⟨(iss _).2 (hR.wk c hc).1,(hR.wk c hc).2⟩⟩
 ·rw [roH_lk] at ho
  obtain ⟨o1,ho1,rfl⟩:=Option.map_eq_some_iff.1 ho
  have r:=hR.r.o k o1 ho1
  have same:∀ κ,ρ k=some κ→(κ∈L↔k∈ks):=by
   intro κ e
   rw [h1]
   constructor
   ·rintro ⟨k',hk',e'⟩
    have:=hR.r.inj k' k κ (h2 k' hk') (by rw [ho1]; rfl) e' e
    exact this ▸ hk'
   ·intro hk; exact ⟨k,hk,e⟩
  by_cases hk:k∈ks
  ·rw [zeL.2 hk,cond_true]
   cases o1 with
   | st ro cs => 
    obtain ⟨κ,cs',g1,g2,g3⟩:=r
    refine ⟨κ,cs',g1,?_,g3⟩
    simp only [roAll,if_pos ((same κ g1).2 hk),g2]; rfl
   | sl ro esz n f => 
    rcases r with ⟨κ,es,g1,g2,g3⟩ | g
    ·refine .inl ⟨κ,es,g1,?_,g3⟩
     simp only [roAll,if_pos ((same κ g1).2 hk),g2]; rfl
    ·exact .inr g
  ·have:ks.any (Nat.beq k)=false:=by
    cases e:ks.any (Nat.beq k) with
    | false => rfl
    | true => exact absurd (zeL.1 e) hk
   rw [this,cond_false]
   cases o1 with
   | st ro cs => 
    obtain ⟨κ,cs',g1,g2,g3⟩:=r
    refine ⟨κ,cs',g1,?_,g3⟩
    simp only [roAll]
    rw [if_neg (fun hh => hk ((same κ g1).1 hh))]; exact g2
   | sl ro esz n f => 
    rcases r with ⟨κ,es,g1,g2,g3⟩ | g
    ·refine .inl ⟨κ,es,g1,?_,g3⟩
     simp only [roAll]
     rw [if_neg (fun hh => hk ((same κ g1).1 hh))]; exact g2
    ·exact .inr g
 ·obtain ⟨q1,q2⟩:=hR.r.fm κ hd
  refine ⟨q1,?_⟩
  simp only [roAll]
  rw [if_neg]
  ·exact q2
  ·intro hh
   obtain ⟨k',hk',e'⟩:=(h1 κ).1 hh
   exact hR.r.dis k' κ (h2 k' hk') e' hd
theorem zmZ (hR:RY K0 fr ρ0 W2 base res ρ y s) {ls:List LV} {asx:List AV} (hr:RLs ρ ls asx) {vs:List FV} {c:List Prop} (h:mapF (fz y.h 20) ls=some (vs,c)) (hc:AllP c) :
  frzL s.h asx=some (vs.map toA)∧(∀ κ,κ∈frzKL s.h asx↔∃ k∈ls.flatMap (fzK y.h 20),ρ k=some κ)∧∀ k∈ls.flatMap (fzK y.h 20),(lkO y.h k).isSome=true:=by
 have:=zrb (hp:=s.h) (h:=y.h) (ρ:=ρ) (F:=FZ) (m:=20) (fun {v a fv c} => zvK hR.r.o 20 FZ (by decide)) hr h hc
 rw [toAL_map] at this
 exact this
theorem evLs (hR:RY K0 fr ρ0 W2 base res ρ y s) (args:List AX):RLs ρ (args.map (evL y.t)) (args.map (evX s.t)):=by
 refine ⟨by simp,fun i hi => ?_⟩
 have hi':i<args.length:=by simpa using hi
 have:=evL_sound hR.r.t args[i]
 simpa [List.getD_eq_getElem?_getD,hi'] using this
theorem ztk {L ks:List Nat} (h1:∀ κ,κ∈L↔∃ k∈ks,ρ k=some κ) (h:ks.isEmpty=true):L=[]:=by
 have:ks=[]:=by simpa using h
 subst this
 cases L with
 | nil => rfl
 | cons a l => 
  obtain ⟨k,hk,_⟩:=(h1 a).1 (by simp)
  cases hk
theorem exC_sound (hR:RY K0 fr ρ0 W2 base res ρ y s) {dr:Bool} {gd:List (Nat×Bool)} {an an':List An} {o:AOper} {lv:LV} {y':Y} {p:List Prop}
  (h:exC E K0 W2 res dr gd y an o.op=some (lv,y',p,an')) (hp:AllP p) {K:St→Prop} (hk:∀ ρ' s',RY K0 fr ρ0 W2 base res ρ' ⟨putL2 o.dst y'.t lv,y'.h,y'.nw,y'.us⟩ s'→K s') (hw:wantA o.guard s.t=some true) :
  AW1 E dr base (Wof W2 ρ0) o K s:=by
 unfold AW1
 rw [hw]
 simp only
 cases ho:o.op with
 | bslv j c zs n ps => 
  simp only [ho,exC] at h ⊢
  split at h
  ·rename_i es hes
   obtain ⟨b1,b2,hlv,hy⟩:zOk zs=true∧es.all (fun c => c.all kfF)=true∧(∃ n2 f2,lv=.d (.sv n2 f2)∧n2=n∧∀ i,i<n→toAL (f2 i)=toAL (es.getD i []))∧y'=y:=by
    split at h
    ·obtain ⟨hb,h'⟩:=zbQ h
     simp only [Bool.and_eq_true,Nat.beq_eq] at hb
     obtain ⟨b1,b2,b3⟩:=hb
     simp only [Option.some.injEq,Prod.mk.injEq] at h'
     obtain ⟨rfl,rfl,rfl,rfl⟩:=h'
     exact ⟨b1,b2,⟨_,_,rfl,b3,by rw [← b3]; exact fun i hi => (hp.1 i hi).trans (getD_mapL es i)⟩,rfl⟩
    ·obtain ⟨hb,h'⟩:=zbQ h
     simp only [Bool.and_eq_true] at hb
     obtain ⟨b1,b2⟩:=hb
     simp only [Option.some.injEq,Prod.mk.injEq] at h'
     obtain ⟨rfl,rfl,rfl,rfl⟩:=h'
     exact ⟨b1,b2,⟨_,_,rfl,rfl,fun _ _ => rfl⟩,rfl⟩
   obtain ⟨n2,f2,rfl,rfl,hf2⟩:=hlv
   subst hy
   clear h
   obtain ⟨r',q1,q2⟩:=fillF_sound hR.r.t zs.length ps (zR_sound b1 n2) hes
   have hlen:r'.length=n2:=by
    have key2:∀ (ps:List (Nat×AV)) (e0 r0:List (List AV)),afillE zs.length e0 ps=some r0→r0.length=e0.length:=by
     intro ps
     induction ps with
     | nil => intro e0 r0 h; obtain rfl:=Option.some.inj h; rfl
     | cons p ps ih => 
      intro e0 r0 h
      simp only [afillE] at h
      split at h
      ·have:=ih _ _ h; simpa using this
      ·cases h
    have:=key2 _ _ _ q1
    simpa using this
   have hall:∀ i,i<es.length→(r'.getD i []).all kf0=true∧(r'.getD i []).map nz=(es.getD i []).map toA:=by
    intro i hi
    have c1:=q2.2 i hi
    have c2:(es.getD i []).all kfF=true:=by
     have:=List.all_eq_true.1 b2 es[i] (List.getElem_mem hi)
     simpa [List.getD_eq_getElem?_getD,hi] using this
    have c3:∀ j,j<(es.getD i []).length→kf0 ((r'.getD i []).getD j .undef)=true∧nz ((r'.getD i []).getD j .undef)=toA ((es.getD i []).getD j .undef):=by
     intro j hj
     refine kfF_sound (c1.2 j hj) ?_
     have:=List.all_eq_true.1 c2 (es.getD i [])[j] (List.getElem_mem hj)
     rw [List.getD_eq_getElem?_getD (l:=es.getD i []),List.getElem?_eq_getElem hj]; exact this
    refine ⟨?_,?_⟩
    ·rw [List.all_eq_true]
     intro x hx
     obtain ⟨j,hj,rfl⟩:=List.getElem_of_mem hx
     have:=(c3 j (by rw [← c1.1]; exact hj)).1
     rw [List.getD_eq_getElem?_getD (l:=r'.getD i []),List.getElem?_eq_getElem hj] at this; exact this
    ·apply List.ext_getElem
     ·simp only [List.length_map]; exact c1.1
     ·intro j h1 h2
      simp only [List.length_map] at h1 h2
      have:=(c3 j h2).2
      rw [List.getD_eq_getElem?_getD (l:=r'.getD i []),List.getElem?_eq_getElem h1,List.getD_eq_getElem?_getD (l:=es.getD i []),List.getElem?_eq_getElem h2] at this
      simpa using this
   refine ⟨r',q1,?_,hk ρ _ (hR.put (v:=.d _) (.d _ _ ?_) o.dst)⟩
   ·rw [List.all_eq_true]
    intro c hc
    obtain ⟨i,hi,rfl⟩:=List.getElem_of_mem hc
    have:=(hall i (by rw [← q2.1]; exact hi)).1
    rw [List.getD_eq_getElem?_getD (l:=r'),List.getElem?_eq_getElem hi] at this; exact this
   ·have e:toA (.sv n2 f2)=.slv (r'.map fun c => c.map nz):=by
     simp only [toA,toAL_map,AV.slv.injEq]
     apply List.ext_getElem
     ·simp [hlen]
     ·intro i h1 h2
      simp only [List.length_map] at h2
      have:=(hall i (by rw [← q2.1]; exact h2)).2
      rw [List.getD_eq_getElem?_getD (l:=r'),List.getElem?_eq_getElem h2] at this
      simp only [List.getElem_map,List.getElem_range]
      rw [← toAL_map,hf2 i (by omega),toAL_map]
      exact this.symm
    rw [← e]; exact .c _ rfl
  ·cases h
 | callp f args => 
  simp only [ho,exC] at h ⊢
  split at h
  ·rename_i r an2
   split at h
   ·rename_i vs c hm
    obtain ⟨hb,h'⟩:=zbQ h
    simp only [Bool.and_eq_true,Bool.or_eq_true,Bool.not_eq_true'] at hb
    simp only [Option.some.injEq,Prod.mk.injEq] at h'
    obtain ⟨rfl,rfl,rfl,rfl⟩:=h'
    obtain ⟨p1,p2,_⟩:=allP_append.1 hp
    obtain ⟨a1,a2,a3⟩:=zmZ hR (evLs hR args) hm p1
    refine ⟨_,toA r,a1,p2,fun hd => ztk a2 (by rcases hb.2 with h | h; (rw [hd] at h; cases h); exact h),hk ρ _ ((hR.mark a2 a3).put (v:=.d _) (.d _ _ (zmx r hb.1)) o.dst)⟩
   ·cases h
  ·cases h
 | callv g args => 
  simp only [ho,exC] at h ⊢
  split at h
  ·rename_i r an2 f caps hg
   split at h
   ·rename_i vs c hm
    obtain ⟨hb,h'⟩:=zbQ h
    simp only [Bool.and_eq_true,Bool.or_eq_true,Bool.not_eq_true'] at hb
    simp only [Option.some.injEq,Prod.mk.injEq] at h'
    obtain ⟨rfl,rfl,rfl,rfl⟩:=h'
    obtain ⟨p1,p2,_⟩:=allP_append.1 hp
    have rg:=evL_sound hR.r.t g
    obtain ⟨caps',e1,hr⟩:∃ caps',evX s.t g=.func f caps'∧RLs ρ caps caps':=by
     split at hg
     ·rename_i hgg
      simp only [Option.some.injEq,Prod.mk.injEq] at hg
      obtain ⟨rfl,rfl⟩:=hg
      rw [hgg] at rg; exact zuY rg
     ·rename_i hgg
      simp only [Option.some.injEq,Prod.mk.injEq] at hg
      obtain ⟨rfl,rfl⟩:=hg
      rw [hgg] at rg
      obtain ⟨cs',q1,q2⟩:=ztu (rl_d rg)
      exact ⟨cs',q1,PW.mapl LV.d q2 (fun a b h => .d _ _ h)⟩
     ·cases hg
    obtain ⟨a1,a2,a3⟩:=zmZ hR ((evLs hR args).append hr) hm p1
    refine ⟨f,caps',_,toA r,e1,a1,p2,fun hd => ztk a2 (by rcases hb.2 with h | h; (rw [hd] at h; cases h); exact h),hk ρ _ ((hR.mark a2 a3).put (v:=.d _) (.d _ _ (zmx r hb.1)) o.dst)⟩
   ·cases h
  ·cases h
 | calls f args => 
  simp only [ho,exC] at h ⊢
  split at h
  ·rename_i hk' hn st lv2 H' an2
   split at h
   ·rename_i H hH
    obtain ⟨hb,h'⟩:=zbQ h
    simp only [Bool.and_eq_true,Bool.not_eq_true'] at hb
    obtain ⟨b1,b2,b3⟩:=hb
    obtain rfl:W2=[]:=by simpa using b2
    simp only [Option.some.injEq,Prod.mk.injEq] at h'
    obtain ⟨rfl,rfl,rfl,rfl⟩:=h'
    obtain ⟨p1,p2,p3⟩:=pickH_spec hH
    have subS:∀ k,(lkO H k).isSome=true→(lkO y.h k).isSome=true:=by
     intro k e
     obtain ⟨o,ho⟩:=Option.isSome_iff_exists.1 e
     rw [(p2 k o ho).2]; rfl
    have ac:=hp.1 ρ s.h s.n (args.map (evX s.t)) (fun k o ho => hR.r.o k o (p2 k o ho).2) (fun k k' κ a b => hR.r.inj k k' κ (subS k a) (subS k' b)) (fun k κ a => hR.r.lt k κ (subS k a)) (evLs hR args) hR.r.rows
    refine ⟨b1,_,ac,fun r h' n' e => ?_⟩
    obtain ⟨lv3,H3,ρ2,⟨rfl,rfl⟩,q1,q2⟩:=zyf hR hH b3 e
    exact hk ρ2 _ (q2.put q1 o.dst)
   ·cases h
  ·cases h
 | _ => 
  simp only [ho,exC] at h ⊢
  obtain ⟨av,h',ρ',q1,q2,q3,q4⟩:=zxD hR h hp
  exact ⟨av,h',q1,q2,hk ρ' _ (q4.put q3 o.dst)⟩
theorem gdRun_sound (hR:RY K0 fr ρ0 W2 base res ρ y s) {gd:List (Nat×Bool)} {g:Option (Nat×Nat×Bool)} {b:Bool} {c:List Prop} (h:gdRun gd y g=some (b,c)) (hc:AllP c):wantA g s.t=some b:=by
 unfold gdRun at h
 cases g with
 | none => simp only [Option.some.injEq,Prod.mk.injEq] at h; obtain ⟨rfl,rfl⟩:=h; rfl
 | some g => 
  obtain ⟨j,d,w⟩:=g
  simp only at h
  have r:=hR.r.t d
  split at h
  ·rename_i hd
   simp only [Option.some.injEq,Prod.mk.injEq] at h
   obtain ⟨rfl,rfl⟩:=h
   rw [hd] at r
   simp only [wantA,zya r]
  ·rename_i q hd
   rw [hd] at r
   have e:=zkk (rl_d r)
   split at h
   ·rename_i b' _
    simp only [Option.some.injEq,Prod.mk.injEq] at h
    obtain ⟨rfl,rfl⟩:=h
    obtain ⟨rfl,_⟩:=hc
    simp only [wantA,e]
   ·simp only [Option.some.injEq,Prod.mk.injEq] at h
    obtain ⟨rfl,rfl⟩:=h
    simp only [wantA,e]
  ·cases h
theorem y1_sound (hR:RY K0 fr ρ0 W2 base res ρ y s) {dr:Bool} {gd:List (Nat×Bool)} {an an':List An} {o:AOper} {y':Y} {p:List Prop}
  (h:y1 E K0 W2 res dr gd y an o=some (y',p,an')) (hp:AllP p) {K:St→Prop} (hk:∀ ρ' s',RY K0 fr ρ0 W2 base res ρ' y' s'→K s'):AW1 E dr base (Wof W2 ρ0) o K s:=by
 unfold y1 at h
 split at h
 ·cases h
 ·rename_i c hg
  simp only [Option.some.injEq,Prod.mk.injEq] at h
  obtain ⟨rfl,rfl,rfl⟩:=h
  unfold AW1
  rw [gdRun_sound hR hg hp]
  exact hk ρ _ (hR.put .hole o.dst)
 ·rename_i c hg
  split at h
  ·cases h
  ·rename_i lv y2 c2 an2 he
   simp only [Option.some.injEq,Prod.mk.injEq] at h
   obtain ⟨rfl,rfl,rfl⟩:=h
   obtain ⟨p1,p2⟩:=allP_append.1 hp
   exact exC_sound hR he p2 hk (gdRun_sound hR hg p1)
theorem yL_sound {dr:Bool} {gd:List (Nat×Bool)} {K:St→Prop}:∀ (ops:List AOper) (an:List An) {y y':Y} {s:St} {ρ:Rho} {p:Prop},RY K0 fr ρ0 W2 base res ρ y s →
  yL E K0 W2 res dr gd ops an y=some (y',p)→p→(∀ ρ' s',RY K0 fr ρ0 W2 base res ρ' y' s'→K s')→AWL E dr base (Wof W2 ρ0) ops K s
 | [],an,y,y',s,ρ,p,hR,h,hp,hk => by
  simp only [yL,Option.some.injEq,Prod.mk.injEq] at h
  obtain ⟨rfl,rfl⟩:=h
  exact hk ρ s hR
 | o :: r,an,y,y',s,ρ,p,hR,h,hp,hk => by
  simp only [yL] at h
  split at h
  ·cases h
  ·rename_i y2 c an2 h1
   split at h
   ·rename_i y3 p2 h2
    simp only [Option.some.injEq,Prod.mk.injEq] at h
    obtain ⟨rfl,rfl⟩:=h
    obtain ⟨hc,hp2⟩:=andL_iff.1 hp
    exact y1_sound hR h1 hc fun ρ' s' hR' => yL_sound r an2 hR' h2 hp2 fun ρ'' s'' hR'' => hk ρ'' s'' hR''
   ·cases h
end
structure YW (E:Env) (K0:List Nat) (fr:Frm) (W2:W2L) (res:Nat) (dr:Bool) (live:List Nat) (ops:List AOper) (Q:S2→Prop) (y:Y):Prop where
 go:∀ base ρ0 ρ s,RY K0 fr ρ0 W2 base res ρ y s→AWL E dr base (Wof W2 ρ0) ops (fun s' => ∃ s2' ρ',Q s2'∧Rep K0 fr ρ' s2'.t s2'.h ⟨prune live s'.t,s'.h,s'.n⟩) s
section
variable {E:Env} {nt:Nat} {K0:List Nat} {fr:Frm} {W2:W2L} {res:Nat} {dr:Bool} {live:List Nat} {ops:List AOper}
theorem AW2.reg (W2:W2L) {Q:AExit→S2→Prop} {s2:S2} (hW:W2.all (fun c => (lkO s2.h c.1).isSome)=true) (h:YW E K0 fr W2 res dr live ops (Q .normal) ⟨s2.t,s2.h,[],[]⟩):AW2 E nt K0 fr (.reg res ops dr live) Q s2:=
 ⟨fun s ρ r => AW.reg (Wof W2 ρ) (h.go s.n ρ ρ ⟨s.t,s.h,s.n+res⟩
  ⟨⟨r.t,r.o,r.inj,fun k κ a b => by have:=r.lt k κ a b; simp only; omega,r.fm,r.dis,by have:=r.n0; simp only; omega,r.an,r.rows⟩,r.n0,Nat.le_refl _,fun k κ a b => .inl (r.lt k κ a b),fun k κ a _ b => r.lt k κ a b,
   fun c hc => ⟨List.all_eq_true.1 hW c hc,rfl⟩⟩)⟩
theorem YW.step (gd:List (Nat×Bool)) (an:List An) {Q:S2→Prop} {y y':Y} {p:Prop} (h:yL E K0 W2 res dr gd ops an y=some (y',p)) (hp:p) (k:YW E K0 fr W2 res dr live [] Q y') :
  YW E K0 fr W2 res dr live ops Q y:=
 ⟨fun base ρ0 ρ s hR => yL_sound ops an hR h hp fun ρ' s' hR' => k.go base ρ0 ρ' s' hR'⟩
theorem YW.to (s2:S2) {Q:S2→Prop} {y:Y} (hq:Q s2) (h:YW E K0 fr W2 res dr live ops (fun s => s=s2) y):YW E K0 fr W2 res dr live ops Q y:=
 ⟨fun base ρ0 ρ s hR => by
  have:=h.go base ρ0 ρ s hR
  have mono:∀ (ops:List AOper) (K K':St→Prop) (s:St) {W:Nat→Nat→Nat→Prop},(∀ s,K s→K' s)→AWL E dr base W ops K s→AWL E dr base W ops K' s:=by
   intro ops
   induction ops with
   | nil => intro K K' s W hk h; exact hk s h
   | cons o r ih => 
    intro K K' s W hk h
    simp only [AWL] at h ⊢
    have ih':=fun s => ih K K' s (W:=W) hk
    revert h ih'
    generalize AWL E dr base W r K=A
    generalize AWL E dr base W r K'=B
    intro h ih'
    unfold AW1 at h ⊢
    split at h
    ·exact h
    ·exact ih' _ h
    ·split at h
     ·obtain ⟨a,b,h1,h2,h3,h4⟩:=h; exact ⟨a,b,h1,h2,h3,ih' _ h4⟩
     ·obtain ⟨a,b,c,d,h1,h2,h3,h4,h5⟩:=h; exact ⟨a,b,c,d,h1,h2,h3,h4,ih' _ h5⟩
     ·obtain ⟨h1,R,h2,h3⟩:=h; exact ⟨h1,R,h2,fun a b c d => ih' _ (h3 a b c d)⟩
     ·obtain ⟨a,h1,h2,h3⟩:=h; exact ⟨a,h1,h2,ih' _ h3⟩
     ·obtain ⟨a,b,h1,h2,h3⟩:=h; exact ⟨a,b,h1,h2,ih' _ h3⟩
  refine mono ops _ _ s (fun s' ⟨s2',ρ',e,r⟩ => ?_) this
  subst e; exact ⟨_,ρ',hq,r⟩⟩
end
def notSv:FV→Bool
 | .sv _ _ => false
 | _ => true
def ovL:LV→LV→Option (List Prop)
 | .d (.sv n2 f2),.d (.sv n f) => some [n2=n,∀ i,i<n→f2 i=f i]
 | .d (.sv n2 _),.d .nils => some [n2=0]
 | .ls k2 lo2 n2,.ls k lo n => bif Nat.beq k2 k&&Nat.beq lo2 lo then some [n2=n] else none
 | .d v,.d u => bif isH v&&(isH u&&(notSv v&&notSv u)) then some [toA v=toA u] else none
 | _,_ => none
theorem ovL_sound {ρ:Rho} {v u:LV} {a:AV} {c:List Prop} (r:RL ρ u a) (h:ovL v u=some c) (hc:AllP c):RL ρ v a:=by
 unfold ovL at h
 split at h
 ·rename_i n2 f2 n f
  obtain rfl:=Option.some.inj h
  obtain ⟨rfl,c2,_⟩:=hc
  refine .d _ _ ?_
  rcases zva (rl_d r) with rfl | ⟨rfl,rfl⟩
  ·have e:toA (.sv n2 f2)=.slv ((List.range n2).map fun i => (f i).map toA):=by
    simp only [toA,toAL_map,AV.slv.injEq]
    apply List.map_congr_left
    intro i hi
    rw [c2 i (List.mem_range.1 hi)]
   rw [← e]; exact .c _ rfl
  ·exact .sv0 _
 ·obtain rfl:=Option.some.inj h
  obtain ⟨rfl,_⟩:=hc
  obtain rfl:=zfc (rl_d r)
  exact .d _ _ (.sv0 _)
 ·rw [Bool.cond_eq_ite] at h
  split at h
  ·rename_i hb
   simp only [Bool.and_eq_true,Nat.beq_eq] at hb
   obtain ⟨rfl,rfl⟩:=hb
   obtain rfl:=Option.some.inj h
   obtain ⟨rfl,_⟩:=hc
   exact r
  ·cases h
 ·rw [Bool.cond_eq_ite] at h
  split at h
  ·rename_i hb
   simp only [Bool.and_eq_true] at hb
   obtain rfl:=Option.some.inj h
   have rd:=rl_d r
   refine .d _ _ ?_
   rename_i v u _ _
   have:a=toA u:=by
    cases rd with
    | c _ _ => rfl
    | sv0 => simp [notSv] at hb
    | nils => simp [isH] at hb
    | func => simp [isH] at hb
    | iface => simp [isH] at hb
    | agg => simp [isH] at hb
    | tup => simp [isH] at hb
   rw [this,← hc.1]
   exact .c _ hb.1
  ·cases h
 ·cases h
def lkV:List (Nat×LV)→Nat→Option LV
 | [],_ => none
 | (k,v) :: l,i => bif Nat.beq i k then some v else lkV l i
def prT (ov:List (Nat×LV)) (t:List (Nat×LV)):List Nat→Option (List (Nat×LV)×List Prop)
 | [] => some ([],[])
 | i :: r => match prT ov t r with
  | none => none
  | some (l,c) => match lkV ov i with
   | none => some ((i,lkT t i) :: l,c)
   | some v => match ovL v (lkT t i) with
    | none => none
    | some c' => some ((i,v) :: l,c'++c)
inductive KA where
 | k (key:Nat)
 | sl (key n:Nat) (f:Nat→List FV)
 | st (key:Nat) (ov:List (Nat×LV))
def ovC (ov:List (Nat×LV)):Nat→List LV→Option (List LV×List Prop)
 | _,[] => some ([],[])
 | i,u :: l => match ovC ov (i+1) l with
  | none => none
  | some (r,c) => match lkV ov i with
   | none => some (u :: r,c)
   | some v => match ovL v u with
    | none => none
    | some c' => some (v :: r,c'++c)
def prH (h:List (Nat×Ob)):List KA→Option (List (Nat×Ob)×List Prop)
 | [] => some ([],[])
 | a :: r => match prH h r with
  | none => none
  | some (l,c) => match a with
   | .k key => match lkO h key with
    | some o => some ((key,o) :: l,c)
    | none => none
   | .sl key n2 f2 => match lkO h key with
    | some (.sl ro esz n f) => some ((key,.sl ro esz n2 f2) :: l,[n2≤n,∀ i,i<n2→f2 i=f i]++c)
    | _ => none
   | .st key ov => match lkO h key with
    | some (.st ro cs) => match ovC ov 0 cs with
     | some (cs',c') => some ((key,.st ro cs') :: l,c'++c)
     | none => none
    | _ => none
def prn (live tl:List Nat) (ov:List (Nat×LV)) (ks:List KA) (y:Y):Option (S2×Prop):=
 bif tl.all (fun i => live.any (Nat.beq i)) then
  match prT ov y.t tl,prH y.h ks with
  | some (t,c),some (h,c') => some (⟨t,h⟩,AndL c (AndL c' True))
  | _,_ => none
 else none
theorem prT_sound {ρ:Rho} {ov t:List (Nat×LV)} {u:Nat→AV} (ht:∀ i,RL ρ (lkT t i) (u i)):∀ (tl:List Nat) {t':List (Nat×LV)} {c:List Prop},prT ov t tl=some (t',c)→AllP c →
  ∀ i,(i∈tl∧RL ρ (lkT t' i) (u i))∨lkT t' i=.undef
 | [],t',c,h,hc,i => by
  simp only [prT,Option.some.injEq,Prod.mk.injEq] at h
  obtain ⟨rfl,rfl⟩:=h
  exact .inr rfl
 | j :: r,t',c,h,hc,i => by
  simp only [prT] at h
  split at h
  ·cases h
  ·rename_i l c1 hr
   split at h
   ·simp only [Option.some.injEq,Prod.mk.injEq] at h
    obtain ⟨rfl,rfl⟩:=h
    by_cases e:i=j
    ·subst e
     left
     refine ⟨by simp,?_⟩
     simp only [lkT,lk,beqT,cond_true]
     exact ht i
    ·simp only [lkT,lk,beqF e,cond_false]
     rcases prT_sound ht r hr hc i with ⟨h1,h2⟩ | h
     ·exact .inl ⟨by simp [h1],h2⟩
     ·exact .inr h
   ·split at h
    ·cases h
    ·rename_i v hv c' hov
     simp only [Option.some.injEq,Prod.mk.injEq] at h
     obtain ⟨rfl,rfl⟩:=h
     obtain ⟨c1,c2⟩:=allP_append.1 hc
     by_cases e:i=j
     ·subst e
      left
      refine ⟨by simp,?_⟩
      simp only [lkT,lk,beqT,cond_true]
      exact ovL_sound (ht i) hov c1
     ·simp only [lkT,lk,beqF e,cond_false]
      rcases prT_sound ht r hr c2 i with ⟨h1,h2⟩ | h
      ·exact .inl ⟨by simp [h1],h2⟩
      ·exact .inr h
theorem ovC_sound {ρ:Rho} {ov:List (Nat×LV)}:∀ (i:Nat) {cs cs2:List LV} {c:List Prop} {cs':List AV},RLs ρ cs cs'→ovC ov i cs=some (cs2,c)→AllP c→RLs ρ cs2 cs'∧cs2.length=cs.length
 | i,[],cs2,c,cs',r,h,hc => by
  simp only [ovC,Option.some.injEq,Prod.mk.injEq] at h
  obtain ⟨rfl,rfl⟩:=h
  exact ⟨r,rfl⟩
 | i,u :: l,cs2,c,cs',r,h,hc => by
  obtain ⟨b,m',rfl,h1,h2⟩:=r.uncons
  simp only [ovC] at h
  split at h
  ·cases h
  ·rename_i r2 c1 hr
   split at h
   ·simp only [Option.some.injEq,Prod.mk.injEq] at h
    obtain ⟨rfl,rfl⟩:=h
    obtain ⟨k1,k2⟩:=ovC_sound (i+1) h2 hr hc
    exact ⟨.cons h1 k1,by simp [k2]⟩
   ·split at h
    ·cases h
    ·rename_i v hv c' hov
     simp only [Option.some.injEq,Prod.mk.injEq] at h
     obtain ⟨rfl,rfl⟩:=h
     obtain ⟨c1,c2⟩:=allP_append.1 hc
     obtain ⟨k1,k2⟩:=ovC_sound (i+1) h2 hr c2
     exact ⟨.cons (ovL_sound h1 hov c1) k1,by simp [k2]⟩
theorem prH_sound {ρ:Rho} {hp:Hp} {h:List (Nat×Ob)} (ho:∀ k o,lkO h k=some o→RO ρ hp k o):∀ (ks:List KA) {h':List (Nat×Ob)} {c:List Prop},prH h ks=some (h',c)→AllP c →
  ∀ k o,lkO h' k=some o→RO ρ hp k o∧(lkO h k).isSome=true
 | [],h',c,hh,hc,k,o,hk => by
  simp only [prH,Option.some.injEq,Prod.mk.injEq] at hh
  obtain ⟨rfl,rfl⟩:=hh
  simp [lkO] at hk
 | a :: r,h',c,hh,hc,k,o,hk => by
  simp only [prH] at hh
  split at hh
  ·cases hh
  ·rename_i l c1 hr
   cases a with
   | k key => 
    simp only at hh
    split at hh
    ·rename_i o1 ho1
     simp only [Option.some.injEq,Prod.mk.injEq] at hh
     obtain ⟨rfl,rfl⟩:=hh
     simp only [lkO] at hk
     by_cases e:k=key
     ·subst e
      rw [beqT,cond_true] at hk
      obtain rfl:=Option.some.inj hk
      exact ⟨ho k _ ho1,by rw [ho1]; rfl⟩
     ·rw [beqF e,cond_false] at hk
      exact prH_sound ho r hr hc k o hk
    ·cases hh
   | sl key n2 f2 => 
    simp only at hh
    split at hh
    ·rename_i ro esz n f ho1
     simp only [Option.some.injEq,Prod.mk.injEq] at hh
     obtain ⟨rfl,rfl⟩:=hh
     obtain ⟨⟨c1,c2,_⟩,c3⟩:=allP_append.1 hc
     simp only [lkO] at hk
     by_cases e:k=key
     ·subst e
      rw [beqT,cond_true] at hk
      obtain rfl:=Option.some.inj hk
      refine ⟨?_,by rw [ho1]; rfl⟩
      rcases ho k _ ho1 with ⟨κ,es,g1,g2,g3,g4⟩ | ⟨g1,rfl⟩
      ·exact .inl ⟨κ,es,g1,g2,by omega,fun i hi => by rw [c2 i hi]; exact g4 i (by omega)⟩
      ·exact .inr ⟨g1,by omega⟩
     ·rw [beqF e,cond_false] at hk
      exact prH_sound ho r hr c3 k o hk
    ·cases hh
   | st key ov => 
    simp only at hh
    split at hh
    ·rename_i ro cs ho1
     split at hh
     ·rename_i cs2 c' hov
      simp only [Option.some.injEq,Prod.mk.injEq] at hh
      obtain ⟨rfl,rfl⟩:=hh
      obtain ⟨c2,c3⟩:=allP_append.1 hc
      simp only [lkO] at hk
      by_cases e:k=key
      ·subst e
       rw [beqT,cond_true] at hk
       obtain rfl:=Option.some.inj hk
       refine ⟨?_,by rw [ho1]; rfl⟩
       obtain ⟨κ,cs',g1,g2,g3⟩:=ho k _ ho1
       obtain ⟨k1,k2⟩:=ovC_sound 0 g3 hov c2
       exact ⟨κ,cs',g1,by rw [k2]; exact g2,k1⟩
      ·rw [beqF e,cond_false] at hk
       exact prH_sound ho r hr c3 k o hk
     ·cases hh
    ·cases hh
theorem zym {live:List Nat} {u:Nat→AV} {i:Nat} (h:i∈live):prune live u i=u i:=by
 unfold prune
 induction live with
 | nil => cases h
 | cons a l ih => 
  simp only [List.map_cons,tm]
  by_cases e:i=a
  ·rw [if_pos e,e]
  ·rw [if_neg e]
   exact ih (by rcases List.mem_cons.1 h with h | h; exact absurd h e; exact h)
section
variable {E:Env} {nt:Nat} {K0:List Nat} {fr:Frm} {W2:W2L} {res:Nat} {dr:Bool} {live:List Nat} {ops:List AOper}
theorem YW.done (tl:List Nat) (ov:List (Nat×LV)) (ks:List KA) {Q:S2→Prop} {y:Y} {s2:S2} {p:Prop} (h:prn live tl ov ks y=some (s2,p)) (hp:p) (hq:Q s2):YW E K0 fr W2 res dr live [] Q y:=
 ⟨fun base ρ0 ρ s hR => by
  unfold prn at h
  rw [Bool.cond_eq_ite] at h
  split at h
  ·rename_i hb
   split at h
   ·rename_i t c h' c' ht hh
    simp only [Option.some.injEq,Prod.mk.injEq] at h
    obtain ⟨rfl,rfl⟩:=h
    obtain ⟨p1,p2⟩:=andL_iff.1 hp
    have p3:=(andL_iff.1 p2).1
    refine ⟨⟨t,h'⟩,ρ,hq,⟨fun i => ?_,fun k o ho => (prH_sound hR.r.o ks hh p3 k o ho).1,fun k k' κ a b => hR.r.inj k k' κ ?_ ?_,fun k κ a => hR.r.lt k κ ?_,hR.r.fm,fun k κ a => hR.r.dis k κ ?_,hR.r.n0,hR.r.an,hR.r.rows⟩⟩
    ·rcases prT_sound hR.r.t tl ht p1 i with ⟨h1,h2⟩ | h
     ·have:i∈live:=zeL.1 (List.all_eq_true.1 hb i h1)
      simp only [zym this]; exact h2
     ·simp only [h]; exact .undef _
    all_goals
     first
     | (obtain ⟨o,ho⟩:=Option.isSome_iff_exists.1 a; exact (prH_sound hR.r.o ks hh p3 _ o ho).2)
     | (obtain ⟨o,ho⟩:=Option.isSome_iff_exists.1 b; exact (prH_sound hR.r.o ks hh p3 _ o ho).2)
   ·cases h
  ·cases h⟩
def yR (E:Env) (K0:List Nat) (W2:W2L) (res:Nat) (dr:Bool) (gd:List (Nat×Bool)) (ops:List AOper) (an:List An) (live tl:List Nat) (ov:List (Nat×LV)) (ks:List KA) (y:Y):Option (S2×Prop):=
 match yL E K0 W2 res dr gd ops an y with
 | none => none
 | some (y',p) => match prn live tl ov ks y' with
  | none => none
  | some (s,q) => some (s,p∧q)
theorem YW.fin (gd:List (Nat×Bool)) (an:List An) (tl:List Nat) (ov:List (Nat×LV)) (ks:List KA) {Q:S2→Prop} {y:Y} (s2:S2) {p:Prop} (hp:p) (h:yR E K0 W2 res dr gd ops an live tl ov ks y=some (s2,p)) (hq:Q s2) :
  YW E K0 fr W2 res dr live ops Q y:=by
 unfold yR at h
 split at h
 ·cases h
 ·rename_i y' p' hy
  split at h
  ·cases h
  ·rename_i s q hs
   simp only [Option.some.injEq,Prod.mk.injEq] at h
   obtain ⟨rfl,rfl⟩:=h
   exact YW.step gd an hy hp.1 (YW.done tl ov ks hs hp.2 hq)
theorem AW2.rg (an:List An) (tl:List Nat) (ov:List (Nat×LV)) (ks:List KA) {Q:AExit→S2→Prop} {s:S2} (s2:S2) {p:Prop} (hp:p) (h:yR E K0 [] res dr [] ops an live tl ov ks ⟨s.t,s.h,[],[]⟩=some (s2,p)) (hq:Q .normal s2) :
  AW2 E nt K0 fr (.reg res ops dr live) Q s:=AW2.reg [] rfl (YW.fin [] an tl ov ks s2 hp h hq)
theorem r_ (an:List An) (tl:List Nat) (ov:List (Nat×LV)) (ks:List KA) {Q:AExit→S2→Prop} {s:S2} (s2:S2) {p:Prop} (hp:p) (hq:Q .normal s2) (h:yR E K0 [] res dr [] ops an live tl ov ks ⟨s.t,s.h,[],[]⟩=some (s2,p):=by kernel_rfl) :
  AW2 E nt K0 fr (.reg res ops dr live) Q s:=AW2.rg an tl ov ks s2 hp h hq
end
theorem Rep.newNil {K0:List Nat} {fr:Frm} {ρ:Rho} {t:List (Nat×LV)} {h:List (Nat×Ob)} {s:St} (r:Rep K0 fr ρ t h s) {key esz:Nat} {f:Nat→List FV} (hk:K0.contains key=false) :
  Rep K0 fr (updR ρ key none) (scrT key t) ((key,.sl false esz 0 f) :: scrH key h) s:=by
 have oldS:∀ k',k'≠key→(lkO ((key,Ob.sl false esz 0 f) :: scrH key h) k').isSome=true→(lkO h k').isSome=true:=by
  intro k' hne hs
  simp only [lkO,beqF hne,cond_false,scrH_lk,if_neg hne] at hs
  simpa using hs
 have old:∀ k',k'≠key→(lkO ((key,Ob.sl false esz 0 f) :: scrH key h) k')=(lkO h k').map (scrO key):=by
  intro k' hne
  simp only [lkO,beqF hne,cond_false,scrH_lk,if_neg hne]
 refine ⟨fun j => ?_,fun k' o' ho' => ?_,fun a b κ h1 h2 e1 e2 => ?_,fun k' κ hs e => ?_,r.fm,fun k' κ hs e => ?_,r.n0,fun k' hk' => ?_,r.rows⟩
 ·rw [scrT_lk]; exact zmp (r.t j)
 ·by_cases hne:k'=key
  ·subst hne
   simp only [lkO,beqT,cond_true,Option.some.injEq] at ho'
   subst ho'; exact .inr ⟨updR_same _ _ _,rfl⟩
  ·rw [old k' hne] at ho'
   obtain ⟨o1,ho1,rfl⟩:=Option.map_eq_some_iff.1 ho'
   exact (r.o k' o1 ho1).other hne (fun κ hκ => rfl)
 ·by_cases n1:a=key
  ·subst n1; rw [updR_same] at e1; cases e1
  ·by_cases n2:b=key
   ·subst n2; rw [updR_same] at e2; cases e2
   ·rw [updR_ne _ _ n1] at e1
    rw [updR_ne _ _ n2] at e2
    exact r.inj a b κ (oldS a n1 h1) (oldS b n2 h2) e1 e2
 ·by_cases n1:k'=key
  ·subst n1; rw [updR_same] at e; cases e
  ·rw [updR_ne _ _ n1] at e; exact r.lt k' κ (oldS k' n1 hs) e
 ·by_cases n1:k'=key
  ·subst n1; rw [updR_same] at e; cases e
  ·rw [updR_ne _ _ n1] at e; exact r.dis k' κ (oldS k' n1 hs) e
 ·have hne:k'≠key:=by
   rintro rfl
   rw [List.contains_eq_mem] at hk
   simp [hk'] at hk
  rw [updR_ne _ _ hne]; exact r.an k' hk'
inductive Ad where
 | s (i key esz:Nat) (f:Nat→List FV)
 | c (k idx key esz:Nat) (f:Nat→List FV)
def isNl:LV→Bool
 | .d .nils => true
 | _ => false
def setAt {α:Type}:List α→Nat→α→List α
 | [],_,_ => []
 | _ :: l,0,x => x :: l
 | a :: l,n+1,x => a :: setAt l n x
theorem setAt_pw {ρ:Rho} {v:LV}:∀ {cs:List LV} {cs':List AV} {i:Nat},RLs ρ cs cs'→RL ρ v (cs'.getD i .undef)→RLs ρ (setAt cs i v) cs'
 | [],cs',i,r,h => r
 | c :: cs,cs',i,r,h => by
  obtain ⟨b,m',rfl,h1,h2⟩:=r.uncons
  cases i with
  | zero => exact .cons h h2
  | succ i => exact .cons h1 (setAt_pw h2 (by simpa using h))
theorem setAt_len {α:Type} (x:α):∀ (l:List α) (i:Nat),(setAt l i x).length=l.length
 | [],i => rfl
 | a :: l,0 => rfl
 | a :: l,i+1 => by simp [setAt,setAt_len x l i]
def adS (K0:List Nat):Ad→S2→Option S2
 | .s i key esz f,s => bif !K0.contains key&&isNl (lkT s.t i) then some ⟨(i,.ls key 0 0) :: scrT key s.t,(key,.sl false esz 0 f) :: scrH key s.h⟩ else none
 | .c k idx key esz f,s => match lkO s.h k with
  | some (.st ro cs) => bif !K0.contains key&&(!Nat.beq k key&&(Nat.blt idx cs.length&&isNl (cs.getD idx .undef))) then
    some ⟨scrT key s.t,setH k (.st ro (setAt (scrL key cs) idx (.ls key 0 0))) ((key,.sl false esz 0 f) :: scrH key s.h)⟩ else none
  | _ => none
theorem isNl_eq {v:LV} (h:isNl v=true):v=.d .nils:=by
 unfold isNl at h
 split at h
 ·rfl
 ·cases h
theorem adS_sound {K0:List Nat} {fr:Frm} {ρ:Rho} {s2 s2':S2} {s:St} (r:Rep K0 fr ρ s2.t s2.h s) {a:Ad} (h:adS K0 a s2=some s2'):∃ ρ',Rep K0 fr ρ' s2'.t s2'.h s:=by
 cases a with
 | s i key esz f => 
  simp only [adS] at h
  rw [Bool.cond_eq_ite] at h
  split at h
  ·rename_i hb
   simp only [Bool.and_eq_true,Bool.not_eq_true'] at hb
   obtain rfl:=Option.some.inj h
   have r':=r.newNil (key:=key) (esz:=esz) (f:=f) hb.1
   refine ⟨_,⟨fun j => ?_,r'.o,r'.inj,r'.lt,r'.fm,r'.dis,r'.n0,r'.an,r'.rows⟩⟩
   simp only [lkT,lk]
   by_cases e:j=i
   ·subst e
    have hr:=r.t j
    rw [isNl_eq hb.2] at hr
    rw [beqT,cond_true,zfc (rl_d hr)]; exact .ls0 _ _ (updR_same _ _ _)
   ·rw [beqF e,cond_false]; exact r'.t j
  ·cases h
 | c k idx key esz f => 
  simp only [adS] at h
  split at h
  ·rename_i ro cs ho
   rw [Bool.cond_eq_ite] at h
   split at h
   ·rename_i hb
    simp only [Bool.and_eq_true,Bool.not_eq_true',zdC] at hb
    obtain ⟨b1,b2,b3,b4⟩:=hb
    obtain rfl:=Option.some.inj h
    have r':=r.newNil (key:=key) (esz:=esz) (f:=f) b1
    have hne:k≠key:=by
     rintro rfl
     rw [beqT] at b2; cases b2
    obtain ⟨κ,cs',g1,g2,g3⟩:=r.o k _ ho
    have hk:lkO ((key,Ob.sl false esz 0 f) :: scrH key s2.h) k=some (.st ro (scrL key cs)):=by
     simp only [lkO,beqF hne,cond_false,scrH_lk,if_neg hne,ho]; rfl
    have:=r'.set (k:=k) (κ:=κ) (o':=.st ro (setAt (scrL key cs) idx (.ls key 0 0))) (h':=s.h) (by rw [hk]; rfl) (by rw [updR_ne _ _ hne]; exact g1) (fun _ _ => rfl) ?_ r.rows
    ·exact ⟨_,this⟩
    ·refine ⟨κ,cs',by rw [updR_ne _ _ hne]; exact g1,?_,setAt_pw (scrL_sound g3) ?_⟩
     ·rw [setAt_len,scrL_map,List.length_map]; exact g2
     ·have hr:=g3.2 idx b3
      rw [isNl_eq b4] at hr
      rw [zfc (rl_d hr)]; exact .ls0 _ _ (updR_same _ _ _)
   ·cases h
  ·cases h
def cvS (tl:List Nat) (ov:List (Nat×LV)) (ks:List KA) (s:S2):Option (S2×Prop):=
 match prT ov s.t tl,prH s.h ks with
 | some (t,c),some (h,c') => some (⟨t,h⟩,AndL c (AndL c' True))
 | _,_ => none
def adsS (K0:List Nat):List Ad→S2→Option S2
 | [],s => some s
 | a :: l,s => match adS K0 a s with
  | some s' => adsS K0 l s'
  | none => none
theorem adsS_sound {K0:List Nat} {fr:Frm}:∀ {l:List Ad} {ρ:Rho} {s2 s2':S2} {s:St},Rep K0 fr ρ s2.t s2.h s→adsS K0 l s2=some s2'→∃ ρ',Rep K0 fr ρ' s2'.t s2'.h s
 | [],ρ,s2,s2',s,r,h => by obtain rfl:=Option.some.inj h; exact ⟨ρ,r⟩
 | a :: l,ρ,s2,s2',s,r,h => by
  simp only [adsS] at h
  split at h
  ·rename_i s3 h3
   obtain ⟨ρ',r'⟩:=adS_sound r h3
   exact adsS_sound r' h
  ·cases h
def cvA (K0:List Nat) (ads:List Ad) (tl:List Nat) (ov:List (Nat×LV)) (ks:List KA) (s:S2):Option (S2×Prop):=
 match adsS K0 ads s with
 | some s' => cvS tl ov ks s'
 | none => none
theorem AW2.cv {E:Env} {nt:Nat} {K0:List Nat} {fr:Frm} {c:ACode} {Q:AExit→S2→Prop} {s:S2} (ads:List Ad) (tl:List Nat) (ov:List (Nat×LV)) (ks:List KA) (s2:S2) {p:Prop} (hp:p)
  (h:cvA K0 ads tl ov ks s=some (s2,p)) (k:AW2 E nt K0 fr c Q s2):AW2 E nt K0 fr c Q s:=
 ⟨fun s' ρ r => by
  unfold cvA at h
  split at h
  ·rename_i s3 h3
   obtain ⟨ρ',r'⟩:=adsS_sound r h3
   unfold cvS at h
   split at h
   ·rename_i t c h' c' ht hh
    simp only [Option.some.injEq,Prod.mk.injEq] at h
    obtain ⟨rfl,rfl⟩:=h
    obtain ⟨p1,p2⟩:=andL_iff.1 hp
    have p3:=(andL_iff.1 p2).1
    have iss:∀ k,(lkO h' k).isSome=true→(lkO s3.h k).isSome=true:=fun k a => by
     obtain ⟨o,ho⟩:=Option.isSome_iff_exists.1 a
     exact (prH_sound r'.o ks hh p3 _ o ho).2
    refine k.go s' ρ' ⟨fun i => ?_,fun k o ho => (prH_sound r'.o ks hh p3 k o ho).1,fun k k' κ a b => r'.inj k k' κ (iss k a) (iss k' b),fun k κ a => r'.lt k κ (iss k a),r'.fm,fun k κ a => r'.dis k κ (iss k a),r'.n0,r'.an,r'.rows⟩
    rcases prT_sound r'.t tl ht p1 i with ⟨h1,h2⟩ | h
    ·exact h2
    ·simp only [h]; exact .undef _
   ·cases h
  ·cases h⟩
def argI:Nat→List LV→List (Nat×LV)
 | _,[] => []
 | i,a :: l => (i,a) :: argI (i+1) l
theorem argI_sound {ρ:Rho} {ls:List LV} {asx:List AV} (h:RLs ρ ls asx):∀ i,RL ρ (lkT (argI 0 ls) i) (argT asx i):=by
 have key:∀ (l:List LV) (j i:Nat),lkT (argI j l) i=if j≤i then l.getD (i - j) .undef else .undef:=by
  intro l
  induction l with
  | nil => intro j i; simp [argI,lkT,lk]
  | cons a l ih => 
   intro j i
   simp only [argI,lkT,lk]
   by_cases e:i=j
   ·subst e; rw [beqT]; simp
   ·rw [beqF e,cond_false]
    have:=ih (j+1) i
    simp only [lkT] at this
    rw [this]
    by_cases h:j≤i
    ·rw [if_pos h,if_pos (by omega),show i - j=(i - (j+1))+1 by omega]; rfl
    ·rw [if_neg h,if_neg (by omega)]
 intro i
 rw [key,if_pos (Nat.zero_le _),Nat.sub_zero,argT]
 by_cases hi:i<ls.length
 ·exact h.2 i hi
 ·have:ls.getD i .undef=.undef:=by simp [List.getD_eq_getElem?_getD,List.getElem?_eq_none (Nat.le_of_not_lt hi)]
  rw [this]; exact .undef _
def resV2 (s:S2):ARes→Option LV
 | .t i => some (lkT s.t i)
 | .cell i _ ag n => match lkT s.t i with
  | .p k o => match lkO s.h k with
   | some (.st _ cs) => bif Nat.ble n (cs.drop o).length then mkL ag ((cs.drop o).take n) else none
   | _ => none
  | _ => none
def resM (s:S2):List ARes→Option (List LV)
 | [] => some []
 | r :: l => match resV2 s r with
  | none => none
  | some v => match resM s l with
   | none => none
   | some vs => some (v :: vs)
def resL2 (s:S2):List ARes→Option LV
 | [r] => resV2 s r
 | rs => (resM s rs).map .tup
theorem resV2_sound {K0:List Nat} {fr:Frm} {ρ:Rho} {s2:S2} {s:St} (r:Rep K0 fr ρ s2.t s2.h s) {x:ARes} {lv:LV} (h:resV2 s2 x=some lv):∃ a,resV s.h s.t x=some a∧RL ρ lv a:=by
 cases x with
 | t i => obtain rfl:=Option.some.inj h; exact ⟨_,rfl,r.t i⟩
 | cell i c ag n => 
  simp only [resV2] at h
  have ri:=r.t i
  split at h
  ·rename_i k o hi
   split at h
   ·rename_i ro cs ho
    rw [Bool.cond_eq_ite] at h
    split at h
    ·rename_i hb
     rw [Nat.ble_eq] at hb
     rw [hi] at ri
     obtain ⟨κ,hρ,e⟩:=rl_p ri
     obtain ⟨κ',cs',g1,g2,g3⟩:=r.o k _ ho
     obtain rfl:κ'=κ:=by rw [hρ] at g1; exact (Option.some.inj g1).symm
     obtain ⟨av,q1,q2⟩:=mkL_sound ((g3.drop o).take n) h
     refine ⟨av,?_,q2⟩
     have hlen:n≤(cs'.drop o).length:=by rw [(g3.drop o).1]; exact hb
     simp only [resV,e,aload,pcells,g2,List.length_singleton,Nat.zero_lt_one,if_true,List.getD_cons_zero]
     rw [if_pos hlen,q1]
    ·cases h
   ·cases h
  ·cases h
theorem resM_sound {K0:List Nat} {fr:Frm} {ρ:Rho} {s2:S2} {s:St} (r:Rep K0 fr ρ s2.t s2.h s):∀ {xs:List ARes} {ls:List LV},resM s2 xs=some ls→∃ asx,xs.mapM (resV s.h s.t)=some asx∧RLs ρ ls asx
 | [],ls,h => by obtain rfl:=Option.some.inj h; exact ⟨[],rfl,.nil⟩
 | x :: xs,ls,h => by
  simp only [resM] at h
  split at h
  ·cases h
  ·rename_i v hv
   split at h
   ·cases h
   ·rename_i vs hvs
    obtain rfl:=Option.some.inj h
    obtain ⟨a,q1,q2⟩:=resV2_sound r hv
    obtain ⟨asx,q3,q4⟩:=resM_sound r hvs
    exact ⟨a :: asx,by simp [List.mapM_cons,q1,q3],.cons q2 q4⟩
theorem resL2_sound {K0:List Nat} {fr:Frm} {ρ:Rho} {s2:S2} {s:St} (r:Rep K0 fr ρ s2.t s2.h s) {xs:List ARes} {lv:LV} (h:resL2 s2 xs=some lv):∃ a,resL s.h s.t xs=some a∧RL ρ lv a:=by
 unfold resL2 at h
 split at h
 ·exact resV2_sound r h
 ·rename_i hne
  obtain ⟨ls,hls,rfl⟩:=Option.map_eq_some_iff.1 h
  obtain ⟨asx,q1,q2⟩:=resM_sound r hls
  refine ⟨.tup asx,?_,.tup _ _ q2.1 q2.2⟩
  unfold resL
  split
  ·exact absurd rfl (hne _)
  ·rw [q1]; rfl
def rtF (s:S2) (xs:List ARes):Option (AV×Prop):=match resL2 s xs with
 | none => none
 | some lv => match fz s.h 20 lv with
  | none => none
  | some (v,c) => some (toA v,AndL c True)
def retP (r:FV) (xs:List ARes):AExit→S2→Prop
 | .exit _,_ => False
 | _,s => ∃ p,rtF s xs=some (toA r,p)∧p
theorem zeg {E:Env} {f:Nat} {A:AFun} {vs:List FV} {r:FV} (hf:Fn E f A vs.length) (hcl:clL vs=true) (hA:∀ fr,AW2 E A.nt [] fr A.code (retP r A.res) ⟨argI 0 (vs.map .d),[]⟩):CF E f vs r:=by
 refine ztJ (by simpa using hf) ?_
 have rs:RLs (fun _ => none) (vs.map .d) (vs.map toA):=by
  have:=clL_sound vs hcl
  rw [toAL_map] at this
  exact PW.mapl LV.d this (fun a b h => .d _ _ h)
 have r0:Rep [] ⟨fun _ => False,fun _ => none,0,fun _ => none⟩ (fun _ => none) (argI 0 (vs.map .d)) [] ⟨argT (vs.map toA),fun _ => none,0⟩:=
  ⟨argI_sound rs,fun k o h => (by cases h),fun k k' κ h => (by cases h),fun k κ h => (by cases h),fun κ h => h.elim,fun k κ h => (by cases h),Nat.le_refl _,fun k h => (by cases h),fun _ _ h => (by cases h)⟩
 refine ((hA ⟨fun _ => False,fun _ => none,0,fun _ => none⟩).go _ _ r0).mono fun e s' ⟨s2',ρ',h1,h2⟩ => ?_
 have fin:(∃ p,rtF s2' A.res=some (toA r,p)∧p)→∃ r',resL s'.h s'.t A.res=some r'∧frz s'.h FZ r'=some (toA r):=by
  rintro ⟨p,hp1,hp2⟩
  unfold rtF at hp1
  split at hp1
  ·cases hp1
  ·rename_i lv hlv
   split at hp1
   ·cases hp1
   ·rename_i v c hv
    simp only [Option.some.injEq,Prod.mk.injEq] at hp1
    obtain ⟨e1,rfl⟩:=hp1
    obtain ⟨a,q1,q2⟩:=resL2_sound h2 hlv
    have:=(zvK h2.o 20 FZ (by decide) q2 hv (andL_iff.1 hp2).1).1
    exact ⟨a,q1,by rw [this,e1]⟩
 cases e with
 | normal => exact fin h1
 | ret => exact fin h1
 | exit i => exact h1.elim
def resC (ov:List (Nat×LV)):LV→Option (LV×List Prop)
 | .agg cs => match ovC ov 0 cs with | some (cs',c) => some (.agg cs',c) | none => none
 | .d (.agg cs) => match ovC ov 0 (cs.map .d) with | some (cs',c) => some (.agg cs',c) | none => none
 | v => match lkV ov 0 with
  | none => some (v,[])
  | some w => match ovL w v with
   | some c => some (w,c)
   | none => none
theorem resC_sound {ρ:Rho} {ov:List (Nat×LV)} {v w:LV} {c:List Prop} {a:AV} (r:RL ρ v a) (h:resC ov v=some (w,c)) (hc:AllP c):RL ρ w a:=by
 unfold resC at h
 split at h
 ·split at h
  ·rename_i cs' c' hov
   simp only [Option.some.injEq,Prod.mk.injEq] at h
   obtain ⟨rfl,rfl⟩:=h
   obtain ⟨asx,rfl,hr⟩:=zwJ r
   have:=(ovC_sound 0 hr hov hc).1
   exact .agg _ _ this.1 this.2
  ·cases h
 ·split at h
  ·rename_i cs' c' hov
   simp only [Option.some.injEq,Prod.mk.injEq] at h
   obtain ⟨rfl,rfl⟩:=h
   obtain ⟨asx,rfl,hr⟩:=zvE (rl_d r)
   have:=(ovC_sound 0 (PW.mapl (R':=RL ρ) (d':=.undef) LV.d hr (fun a b h => .d _ _ h)) hov hc).1
   exact .agg _ _ this.1 this.2
  ·cases h
 ·split at h
  ·simp only [Option.some.injEq,Prod.mk.injEq] at h
   obtain ⟨rfl,rfl⟩:=h
   exact r
  ·split at h
   ·rename_i w' _ c' hov
    simp only [Option.some.injEq,Prod.mk.injEq] at h
    obtain ⟨rfl,rfl⟩:=h
    exact ovL_sound r hov hc
   ·cases h
def rtS (s:S2) (xs:List ARes) (ov:List (Nat×LV)) (kas:List KA):Option (LV×List (Nat×Ob)×Prop):=match resL2 s xs with
 | none => none
 | some lv => match resC ov lv,prH s.h kas with
  | some (lv',c),some (H',c') => some (lv',H',AndL c (AndL c' True))
  | _,_ => none
def retS (ks:List Nat) (R:LV→List (Nat×Ob)→Prop) (xs:List ARes):AExit→S2→Prop
 | .exit _,_ => False
 | _,s => ∃ ov kas lv H' p,rtS s xs ov kas=some (lv,H',p)∧p∧R lv H'∧inK ks lv=true∧inKH ks H'=true
theorem retS_mk3 {ks:List Nat} {lv:LV} {H':List (Nat×Ob)} {xs:List ARes} {s:S2} (ov:List (Nat×LV)) (kas:List KA) {p:Prop} (hp:p) (h:rtS s xs ov kas=some (lv,H',p)) (h2:(inK ks lv&&inKH ks H')=true) :
  retS ks (fun a b => a=lv∧b=H') xs .ret s:=by
 simp only [Bool.and_eq_true] at h2
 exact ⟨ov,kas,lv,H',p,h,hp,⟨rfl,rfl⟩,h2.1,h2.2⟩
theorem retS_mkn3 {ks:List Nat} {lv:LV} {H':List (Nat×Ob)} {xs:List ARes} {s:S2} (ov:List (Nat×LV)) (kas:List KA) {p:Prop} (hp:p) (h:rtS s xs ov kas=some (lv,H',p)) (h2:(inK ks lv&&inKH ks H')=true) :
  retS ks (fun a b => a=lv∧b=H') xs .normal s:=by
 simp only [Bool.and_eq_true] at h2
 exact ⟨ov,kas,lv,H',p,h,hp,⟨rfl,rfl⟩,h2.1,h2.2⟩
theorem zkr {E:Env} {f:Nat} {A:AFun} {args:List LV} {H:List (Nat×Ob)} {hn st:List Nat} {R:LV→List (Nat×Ob)→Prop} (hf:Fn E f A args.length)
  (hA:∀ fr,AW2 E A.nt st fr A.code (retS (H.map (·.1)++hn) R A.res) ⟨argI 0 args,H⟩):CM E f args H hn st R:=by
 intro ρ h n asx ho hinj hlt hr hrw
 refine ztI (by rw [hr.1]; exact hf) ?_
 have r0:Rep st ⟨fun κ => κ<n∧∀ k,(lkO H k).isSome=true→ρ k≠some κ,h,n,ρ⟩ ρ (argI 0 args) H ⟨argT asx,h,n⟩:=
  ⟨argI_sound hr,ho,hinj,hlt,fun κ hd => ⟨hd.1,rfl⟩,fun k κ hs e hd => hd.2 k hs e,Nat.le_refl _,fun k _ => rfl,hrw⟩
 refine ((hA _).go _ _ r0).mono fun e s' ⟨s2',ρ',h1,h2⟩ => ?_
 have fin:(∃ ov kas lv H' p,rtS s2' A.res ov kas=some (lv,H',p)∧p∧R lv H'∧inK (H.map (·.1)++hn) lv=true∧inKH (H.map (·.1)++hn) H'=true)→∃ r',resL s'.h s'.t A.res=some r'∧CSEnd H hn st ρ h n R r' s'.h s'.n:=by
  rintro ⟨ov,kas,lv,H',p,q1,hp,q2,q3,q4⟩
  unfold rtS at q1
  split at q1
  ·cases q1
  ·rename_i lv0 hlv
   split at q1
   ·rename_i lv1 c H1 c' hc1 hc2
    simp only [Option.some.injEq,Prod.mk.injEq] at q1
    obtain ⟨rfl,rfl,rfl⟩:=q1
    obtain ⟨p1,p2⟩:=andL_iff.1 hp
    have p3:=(andL_iff.1 p2).1
    have hH:=fun k o ho => prH_sound h2.o kas hc2 p3 k o ho
    have iss:∀ k,(lkO H1 k).isSome=true→(lkO s2'.h k).isSome=true:=fun k a => by
     obtain ⟨o,ho⟩:=Option.isSome_iff_exists.1 a
     exact (hH k o ho).2
    obtain ⟨a,q5,q6⟩:=resL2_sound h2 hlv
    refine ⟨a,q5,⟨⟨lv1,H1,ρ',q2,q3,q4,resC_sound q6 hc1 p1,fun k o ho => (hH k o ho).1,fun k k' κ a b => h2.inj k k' κ (iss k a) (iss k' b),fun k κ a => h2.lt k κ (iss k a),fun k κ hs e => ?_,h2.an⟩,fun κ k1 k2 => (h2.fm κ ⟨k1,k2⟩).2,h2.n0,h2.rows⟩⟩
    have:=h2.dis k κ (iss k hs) e
    by_cases hκ:κ<n
    ·left
     apply Classical.byContradiction
     intro hne
     exact this ⟨hκ,fun k0 a b => hne ⟨k0,a,b⟩⟩
    ·exact .inr (by omega)
   ·cases q1
 cases e with
 | normal => exact fin h1
 | ret => exact fin h1
 | exit i => exact h1.elim
def fl {α:Type} [Inhabited α] (enc:α→List FV) (l:List α) (i:Nat):List FV:=enc (l.getD i default)
def sV {α:Type} [Inhabited α] (enc:α→List FV) (l:List α):FV:=.sv l.length (fl enc l)
def gd {α:Type} (p:Prop) [Decidable p] (e:Option α):Option α:=if p then e else none
theorem zaf {α:Type} {p:Prop} [Decidable p] {e:Option α} {r:α} (h:gd p e=some r):p∧e=some r:=by
 unfold gd at h
 split at h
 ·exact ⟨‹_›,h⟩
 ·cases h
theorem bind_some {α β:Type} {a:Option α} {f:α→Option β} {r:β} (h:a.bind f=some r):∃ x,a=some x∧f x=some r:=by
 cases a with
 | none => cases h
 | some x => exact ⟨x,rfl,h⟩
theorem zao {α:Type} {c:Bool} {a b r:Option α} (h:(if c=true then a else b)=r) (hc:c=true):a=r:=by rw [if_pos hc] at h; exact h
theorem zap {α:Type} {c:Bool} {a b r:Option α} (h:(if c=true then a else b)=r) (hc:c=false):b=r:=by rw [if_neg (by simp [hc])] at h; exact h
theorem app1 {α:Type} [Inhabited α] (enc:α→List FV) (l:List α) (x:α) (g:Nat→List FV) (hg:g 0=enc x) :
  (l++[x]).length=l.length+1∧∀ i,i<(l++[x]).length→fl enc (l++[x]) i=appF l.length (fl enc l) g i:=by
 refine ⟨by simp,fun i hi => ?_⟩
 unfold appF fl
 by_cases h:i<l.length
 ·rw [zdC.2 h,cond_true]
  simp [List.getD_eq_getElem?_getD,List.getElem?_append,h]
 ·have hb:Nat.blt i l.length=false:=by
   cases e:Nat.blt i l.length with
   | false => rfl
   | true => exact absurd (zdC.1 e) h
  have:i=l.length:=by simp at hi; omega
  subst this
  rw [hb,cond_false,Nat.sub_self,hg]
  simp [List.getD_eq_getElem?_getD]
theorem AW2.cond {E:Env} {nt:Nat} {K0:List Nat} {fr:Frm} {x:AX} {p q:ACode} {Q:AExit→S2→Prop} {s:S2} {b:Bool} (hx:evL s.t x=.d (.bool b)) (ht:b=true→AW2 E nt K0 fr p Q s) (hf:b=false→AW2 E nt K0 fr q Q s) :
  AW2 E nt K0 fr (.cond x p q) Q s:=
 ⟨fun s' ρ r => AW.cond (zkk (rl_d (hx ▸ evL_sound r.t x))) (fun h => (ht h).go s' ρ r) (fun h => (hf h).go s' ρ r)⟩
theorem AW2.fzC {E:Env} {nt:Nat} {K0:List Nat} {fr:Frm} {sl:List Nat} {x:ACode} {Q:AExit→S2→Prop} {s:S2} (vs:List FV) {c:List Prop} (hc:AndL c True) (hv:mapF (Go.Proofs.YtablleokoifolaaGreatDoor.fz s.h 20) (sl.map (lkT s.t))=some (vs,c)) (hcl:clL vs=true)
  (h:AW2 E nt K0 fr x Q ⟨sl.zip (vs.map .d)++s.t,roH ((sl.map (lkT s.t)).flatMap (fzK s.h 20)) s.h⟩):AW2 E nt K0 fr (.fz sl x) Q s:=
 ⟨fun s' ρ r => by
  have hr:RLs ρ (sl.map (lkT s.t)) (sl.map s'.t):=⟨by simp,fun i hi => by
   have hi':i<sl.length:=by simpa using hi
   have:=r.t sl[i]
   simpa [List.getD_eq_getElem?_getD,hi'] using this⟩
  have hR:RY K0 fr ρ [] s'.n 0 ρ ⟨s.t,s.h,[],[]⟩ s':=⟨r,r.n0,Nat.le_refl _,fun k κ a b => .inl (r.lt k κ a b),fun k κ a _ b => r.lt k κ a b,fun c hc => by cases hc⟩
  obtain ⟨a1,a2,a3⟩:=zmZ hR hr hv (andL_iff.1 hc).1
  have hm:=(hR.mark a2 a3).r
  have hg:∀ i,i<sl.length→frz s'.h FZ (s'.t (sl.getD i 0))=some (toA (vs.getD i .undef))∧i<vs.length:=by
   intro i hi
   have e1:=(mapM_some a1).1
   have hvl:vs.length=sl.length:=by simpa using e1
   obtain ⟨y,hy,hf⟩:=(mapM_some a1).2 i (s'.t sl[i]) (by simp [hi])
   have hiv:i<vs.length:=by omega
   refine ⟨?_,hiv⟩
   simp only [List.getElem?_map,List.getElem?_eq_getElem hiv,Option.map_some,Option.some.injEq] at hy
   simp only [List.getD_eq_getElem?_getD,List.getElem?_eq_getElem hi,List.getElem?_eq_getElem hiv,Option.getD_some]
   rw [hf,hy]
  refine AW.fz (fun i hi => ?_) (h.go _ ρ ⟨fun i => ?_,hm.o,hm.inj,hm.lt,hm.fm,hm.dis,hm.n0,hm.an,hm.rows⟩)
  ·obtain ⟨j,hj,rfl⟩:=List.getElem_of_mem hi
   have:=(hg j hj).1
   rw [List.getD_eq_getElem?_getD,List.getElem?_eq_getElem hj] at this
   simp only [Option.getD_some] at this
   rw [this]; rfl
  ·have key:∀ (sl:List Nat) (vs:List FV),(∀ j,j<sl.length→frz s'.h FZ (s'.t (sl.getD j 0))=some (toA (vs.getD j .undef))∧j<vs.length)→clL vs=true →
     (i ∉ sl∧lkT (sl.zip (vs.map LV.d)++s.t) i=lkT s.t i)∨(i∈sl∧∃ v,lkT (sl.zip (vs.map LV.d)++s.t) i=.d v∧frz s'.h FZ (s'.t i)=some (toA v)∧cl v=true):=by
    intro sl
    induction sl with
    | nil => intro vs _ _; exact .inl ⟨by simp,by simp⟩
    | cons j sl ih => 
     intro vs hh hcl
     cases vs with
     | nil => have:=(hh 0 (by simp)).2; simp at this
     | cons v vs => 
      simp only [clL,Bool.and_eq_true] at hcl
      simp only [List.map_cons,List.zip_cons_cons,List.cons_append,lkT,lk]
      by_cases e:i=j
      ·subst e
       rw [beqT,cond_true]
       have:=(hh 0 (by simp)).1
       simp only [List.getD_cons_zero] at this
       exact .inr ⟨by simp,v,rfl,this,hcl.1⟩
      ·rw [beqF e,cond_false]
       have:=ih vs (fun q hq => by
        have:=hh (q+1) (by simpa using hq)
        simpa using this) hcl.2
       simp only [lkT] at this
       rcases this with ⟨h1,h2⟩ | ⟨h1,h2⟩
       ·exact .inl ⟨by simp [e,h1],h2⟩
       ·exact .inr ⟨by simp [h1],h2⟩
   have fin:i∈sl→(∃ v,lkT (sl.zip (vs.map LV.d)++s.t) i=.d v∧frz s'.h FZ (s'.t i)=some (toA v)∧cl v=true)→RL ρ (lkT (sl.zip (vs.map LV.d)++s.t) i) (frzT s'.h sl s'.t i):=by
    rintro hi ⟨v,e1,e2,e3⟩
    simp only [frzT,if_pos hi,e1,e2,Option.getD_some]
    exact .d _ _ (zmx v e3)
   rcases key sl vs hg hcl with ⟨h1,h2⟩ | ⟨h1,h2⟩
   ·simp only [h2,frzT,if_neg h1]; exact r.t i
   ·exact fin h1 h2⟩
structure Wk (s s2:S2):Prop where
 go:∀ K0 fr ρ s',Rep K0 fr ρ s.t s.h s'→Rep K0 fr ρ s2.t s2.h s'
theorem zbc {s s2:S2} (tl:List Nat) (ov:List (Nat×LV)) (ks:List KA) {p:Prop} (hp:p) (h:cvS tl ov ks s=some (s2,p)):Wk s s2:=
 ⟨fun K0 fr ρ s' r => by
  unfold cvS at h
  split at h
  ·rename_i t c h' c' ht hh
   simp only [Option.some.injEq,Prod.mk.injEq] at h
   obtain ⟨rfl,rfl⟩:=h
   obtain ⟨p1,p2⟩:=andL_iff.1 hp
   have p3:=(andL_iff.1 p2).1
   have iss:∀ k,(lkO h' k).isSome=true→(lkO s.h k).isSome=true:=fun k a => by
    obtain ⟨o,ho⟩:=Option.isSome_iff_exists.1 a
    exact (prH_sound r.o ks hh p3 _ o ho).2
   refine ⟨fun i => ?_,fun k o ho => (prH_sound r.o ks hh p3 k o ho).1,fun k k' κ a b => r.inj k k' κ (iss k a) (iss k' b),fun k κ a => r.lt k κ (iss k a),r.fm,fun k κ a => r.dis k κ (iss k a),r.n0,r.an,r.rows⟩
   rcases prT_sound r.t tl ht p1 i with ⟨h1,h2⟩ | h
   ·exact h2
   ·simp only [h]; exact .undef _
  ·cases h⟩
theorem AW2.wk {E:Env} {nt:Nat} {K0:List Nat} {fr:Frm} {c:ACode} {Q:AExit→S2→Prop} {s s2:S2} (w:Wk s s2) (h:AW2 E nt K0 fr c Q s2):AW2 E nt K0 fr c Q s:=
 ⟨fun s' ρ r => h.go s' ρ (w.go _ _ _ _ r)⟩
theorem AW2.mid {E:Env} {nt:Nat} {K0:List Nat} {fr:Frm} {x y:ACode} {Q:AExit→S2→Prop} {s:S2} (s1:S2) (rest:AW2 E nt K0 fr y Q s1)
  (h:AW2 E nt K0 fr x (fun e s' => match e with | .normal => Wk s' s1 | .ret => Q .ret s' | .exit i => Q (.exit i) s') s):AW2 E nt K0 fr (.seq x y) Q s:=
 AW2.seq (h.mono fun e s' hh => by
  cases e with
  | normal => exact AW2.wk hh rest
  | ret => exact hh
  | exit i => exact hh)
theorem AW2.lp {E:Env} {nt:Nat} {K0:List Nat} {fr:Frm} {x:ACode} {Q:AExit→S2→Prop} {σ:Type} (J:σ→S2) (P:Nat→σ→Prop)
  (round:∀ k v,P k v→AW2 E nt K0 fr x (fun e s' => match e with | .normal => ∃ k' v',k'<k∧P k' v'∧Wk s' (J v') | .ret => Q .ret s' | .exit i => Q (.exit i) s') (J v))
  (k:Nat) (v:σ) (h:P k v):AW2 E nt K0 fr (.loop x) Q (J v):=
 ⟨fun s ρ r => AW.loop (fun k s => ∃ v ρ,P k v∧Rep K0 fr ρ (J v).t (J v).h s) (fun k s ⟨v,ρ,hp,hr⟩ => ((round k v hp).go s ρ hr).mono fun e s' ⟨s2',ρ',k1,k2⟩ => by
  cases e with
  | normal => 
   obtain ⟨k',v',g1,g2,g3⟩:=k1
   exact ⟨k',g1,v',ρ',g2,g3.go _ _ _ _ k2⟩
  | ret => exact ⟨s2',ρ',k1,k2⟩
  | exit i => exact ⟨s2',ρ',k1,k2⟩) k s ⟨v,ρ,h,r⟩⟩
def lpN {σ R:Type}:Nat→((σ→Option R)→σ→Option R)→σ→Option R
 | 0,_,_ => none
 | n+1,F,v => F (lpN n F) v
theorem AW2.lpR {E:Env} {nt:Nat} {K0:List Nat} {fr:Frm} {x:ACode} {Q:AExit→S2→Prop} {σ R:Type} (J:σ→S2) {F:(σ→Option R)→σ→Option R} {r:R}
  (round:∀ (rec:σ→Option R) (v:σ),F rec v=some r→AW2 E nt K0 fr x (fun e s' => match e with | .normal => ∃ v',rec v'=some r∧Wk s' (J v') | .ret => Q .ret s' | .exit i => Q (.exit i) s') (J v))
  {n:Nat} {v:σ} (H:lpN n F v=some r):AW2 E nt K0 fr (.loop x) Q (J v):=
 AW2.lp J (fun n v => lpN n F v=some r) (fun k v H => by
  cases k with
  | zero => cases H
  | succ k => 
   refine (round (lpN k F) v H).mono fun e s' hh => ?_
   cases e with
   | normal => obtain ⟨v',h1,h2⟩:=hh; exact ⟨k,v',Nat.lt_succ_self k,h1,h2⟩
   | ret => exact hh
   | exit i => exact hh) n v H
theorem dfl {α:Type} [Inhabited α] (enc:α→List FV) (h:∀ x,depFL (enc x)<40) (l:List α):∀ i,i<l.length→depFL (shF 0 (fl enc l) i)<40:=fun i _ => h _
def eI (k:IntKind) (x:Int):List FV:=[.int k x]
def eL {α:Type} [Inhabited α] (enc:α→List FV) (l:List α):List FV:=[sV enc l]
def eD (l:List FV):List LV:=l.map .d
abbrev wI (x:Int):Int:=IntKind.i64.wrap x
theorem orT {a b:Bool} (h:a=true):(a||b)=true:=by rw [h]; rfl
theorem orF {a b:Bool} (h:a=false):(a||b)=b:=by rw [h]; rfl
theorem andT {a b:Bool} (h:a=true):(a&&b)=b:=by rw [h]; rfl
theorem andF {a b:Bool} (h:a=false):(a&&b)=false:=by rw [h]; rfl
theorem ovB {a b:Bool} (h:a=b):toA (.bool a)=toA (.bool b):=by rw [h]
theorem bT (b:Bool):b=true∨b=false:=by cases b <;> simp
theorem ixN {i:Int} {n:Nat} (h:0≤i∧i<n):addN 0 i.toNat<n:=by show i.toNat<n; omega
theorem takeN {α:Type} {l:List α} {g:Int} (h:0≤(0:Int)∧0≤g∧g≤l.length):(l.take g.toNat).length=g.toNat - (0:Int).toNat:=by
 simp; omega
theorem takeF {α:Type} [Inhabited α] (enc:α→List FV) (l:List α) (n:Nat):∀ i,i<(l.take n).length→fl enc (l.take n) i=fl enc l i:=by
 intro i hi
 have:i<n:=by simp at hi; omega
 simp [fl,List.getD_eq_getElem?_getD,List.getElem?_take,this]
theorem takeL {α:Type} (l:List α) (n:Nat):(l.take n).length≤l.length:=by simp; omega
theorem litK {α:Type} [Inhabited α] (enc:α→List FV) (l:List α) (hn:∀ x,(enc x).all nnF=true):∀ i,i<l.length→(fl enc l i).map cnF=((l.map enc).map (List.map cnF)).getD i []∧(fl enc l i).all nnF=true:=by
 intro i hi
 refine ⟨?_,hn _⟩
 simp [fl,List.getD_eq_getElem?_getD,hi]
theorem litF {α:Type} [Inhabited α] (enc:α→List FV) (l:List α):∀ i,i<l.length→toAL (fl enc l i)=((l.map enc).map toAL).getD i []:=by
 intro i hi
 simp [fl,List.getD_eq_getElem?_getD,hi]
theorem retP_mk2 {r:FV} {xs:List ARes} {s:S2} {p:Prop} (hp:p) (h:rtF s xs=some (toA r,p)):retP r xs .ret s:=⟨p,h,hp⟩
theorem bifT {α:Type} {c:Bool} {a b:α} (h:c=true):(bif c then a else b)=a:=by rw [h]; rfl
theorem bifF {α:Type} {c:Bool} {a b:α} (h:c=false):(bif c then a else b)=b:=by rw [h]; rfl
theorem zvO (k:IntKind):∀ x,depFL (eI k x)<40:=fun _ => of_decide_eq_true (by kernel_rfl)
theorem appN {α:Type} [Inhabited α] (enc:α→List FV) (l m:List α):(l++m).length=l.length+m.length∧∀ i,i<(l++m).length→fl enc (l++m) i=appF l.length (fl enc l) (fl enc m) i:=by
 refine ⟨by simp,fun i hi => ?_⟩
 unfold appF fl
 by_cases h:i<l.length
 ·rw [zdC.2 h,cond_true]
  simp [List.getD_eq_getElem?_getD,List.getElem?_append,h]
 ·have hb:Nat.blt i l.length=false:=by
   cases e:Nat.blt i l.length with
   | false => rfl
   | true => exact absurd (zdC.1 e) h
  rw [hb,cond_false]
  simp [List.getD_eq_getElem?_getD,List.getElem?_append,h]
theorem lcl {α:Type} [Inhabited α] (enc:α→List FV) {n:Nat} (h:∀ x,(enc x).length=n∧clL (enc x)=true) (l:List α):∀ i,i<l.length→(fl enc l i).length=n∧clL (fl enc l i)=true:=fun i _ => h _
theorem zyM (k:IntKind):∀ x,(eI k x).length=1∧clL (eI k x)=true:=fun _ => ⟨rfl,by kernel_rfl⟩
section
variable {α:Type} [Inhabited α] (enc:α→List FV) {l:List α} {g:Int}
end
theorem setF {α:Type} [Inhabited α] (enc:α→List FV) (l:List α) (n:Nat) (x:α) (c:List FV) (hc:c=enc x):∀ j,j<l.length→fl enc (List.set l n x) j=bif Nat.beq j n then c else fl enc l j:=by
 intro j hj
 subst hc
 by_cases e:j=n
 ·subst e
  rw [beqT,cond_true]
  simp [fl,List.getD_eq_getElem?_getD,hj]
 ·rw [beqF e,cond_false]
  simp [fl,List.getD_eq_getElem?_getD,List.getElem?_set_ne (Ne.symm e)]
theorem setLe {α:Type} (l:List α) (n:Nat) (x:α):(List.set l n x).length≤l.length:=by simp
theorem setEq {α:Type} (l:List α) (n:Nat) (x:α):(List.set l n x).length=l.length:=by simp
theorem refF (f:Nat→List FV) (n:Nat):∀ i,i<n→f i=f i:=fun _ _ => rfl
theorem AW2.fz {E:Env} {nt:Nat} {K0:List Nat} {fr:Frm} {sl:List Nat} {x:ACode} {Q:AExit→S2→Prop} {s:S2} (vs:List FV) {P:Prop} (hp:P) (hv:(match mapF (Go.Proofs.YtablleokoifolaaGreatDoor.fz s.h 20) (sl.map (lkT s.t)) with
   | some (vs',c) => some (vs',AndL c True)
   | none => none)=some (vs,P)) (hcl:clL vs=true)
  (h:AW2 E nt K0 fr x Q ⟨sl.zip (vs.map .d)++s.t,roH ((sl.map (lkT s.t)).flatMap (fzK s.h 20)) s.h⟩):AW2 E nt K0 fr (.fz sl x) Q s:=by
 cases e:mapF (Go.Proofs.YtablleokoifolaaGreatDoor.fz s.h 20) (sl.map (lkT s.t)) with
 | none => rw [e] at hv; cases hv
 | some vc => 
  obtain ⟨vs',c⟩:=vc
  rw [e] at hv
  simp only [Option.some.injEq,Prod.mk.injEq] at hv
  obtain ⟨rfl,rfl⟩:=hv
  exact AW2.fzC vs' hp e hcl h
end Go.Proofs.YtablleokoifolaaGreatDoor
set_option linter.unusedVariables false
set_option linter.unusedSimpArgs false
namespace Go.Proofs.YtablleokoifolaaGreatDoor
open Go
inductive Instr where
 | mk (op n align offset result:Int) (body els:List Instr) (labels:List Int)
namespace Instr
def op:Instr→Int | mk a _ _ _ _ _ _ _ => a
def n:Instr→Int | mk _ a _ _ _ _ _ _ => a
def align:Instr→Int | mk _ _ a _ _ _ _ _ => a
def offset:Instr→Int | mk _ _ _ a _ _ _ _ => a
def result:Instr→Int | mk _ _ _ _ a _ _ _ => a
def body:Instr→List Instr | mk _ _ _ _ _ a _ _ => a
def els:Instr→List Instr | mk _ _ _ _ _ _ a _ => a
def labels:Instr→List Int | mk _ _ _ _ _ _ _ a => a
end Instr
instance:Inhabited Instr:=⟨.mk 0 0 0 0 0 [] [] []⟩
theorem Instr.eta (x:Instr):Instr.mk x.op x.n x.align x.offset x.result x.body x.els x.labels=x:=by cases x; rfl
abbrev BF:=Nat×(Nat→List FV)
def bf0:BF:=(0,fun _ => [])
def flX (l:List Instr) (p q:List BF) (i:Nat):List FV:=
 [.int .u8 (l.getD i default).op,.int .i64 (l.getD i default).n,.int .u32 (l.getD i default).align,.int .u32 (l.getD i default).offset,.int .u8 (l.getD i default).result,
  .sv (p.getD i bf0).1 (p.getD i bf0).2,.sv (q.getD i bf0).1 (q.getD i bf0).2,sV (eI .u32) (l.getD i default).labels]
mutual
def bdy:Instr→BF
 | .mk _ _ _ _ _ b _ _ => (b.length,flX b (bdys b) (elss b))
def ely:Instr→BF
 | .mk _ _ _ _ _ _ e _ => (e.length,flX e (bdys e) (elss e))
def bdys:List Instr→List BF
 | [] => []
 | x :: l => bdy x :: bdys l
def elss:List Instr→List BF
 | [] => []
 | x :: l => ely x :: elss l
end
def flI (l:List Instr):Nat→List FV:=flX l (bdys l) (elss l)
def sVI (l:List Instr):FV:=.sv l.length (flI l)
def eInstr (x:Instr):List FV:=[.int .u8 x.op,.int .i64 x.n,.int .u32 x.align,.int .u32 x.offset,.int .u8 x.result,sVI x.body,sVI x.els,sV (eI .u32) x.labels]
theorem zvR:∀ (l:List Instr) (i:Nat),i<l.length→(bdys l).getD i bf0=bdy (l.getD i default)
 | [],i,h => by simp at h
 | x :: l,0,h => by simp [bdys]
 | x :: l,i+1,h => by
  have:=zvR l i (by simpa using h)
  simpa [bdys] using this
theorem zvN:∀ (l:List Instr) (i:Nat),i<l.length→(elss l).getD i bf0=ely (l.getD i default)
 | [],i,h => by simp at h
 | x :: l,0,h => by simp [elss]
 | x :: l,i+1,h => by
  have:=zvN l i (by simpa using h)
  simpa [elss] using this
theorem zyE (x:Instr):bdy x=(x.body.length,flI x.body):=by cases x; simp only [bdy,Instr.body,flI]
theorem zyA (x:Instr):ely x=(x.els.length,flI x.els):=by cases x; simp only [ely,Instr.els,flI]
theorem flI_eq {l:List Instr} {i:Nat} (h:i<l.length):flI l i=eInstr (l.getD i default):=by
 unfold flI flX eInstr sVI
 rw [zvR l i h,zvN l i h,zyE,zyA]
theorem flI_ix {l:List Instr} {i:Int} (h:0≤i∧i<l.length):flI l i.toNat=eInstr (l.getD i.toNat default):=flI_eq (by omega)
theorem appI (l:List Instr) (x:Instr) (g:Nat→List FV) (hg:g 0=eInstr x) :
  (l++[x]).length=l.length+1∧∀ i,i<(l++[x]).length→flI (l++[x]) i=appF l.length (flI l) g i:=by
 refine ⟨by simp,fun i hi => ?_⟩
 rw [flI_eq hi]
 unfold appF
 by_cases h:i<l.length
 ·rw [zdC.2 h,cond_true,flI_eq h]
  simp [List.getD_eq_getElem?_getD,List.getElem?_append,h]
 ·have hb:Nat.blt i l.length=false:=by
   cases e:Nat.blt i l.length with
   | false => rfl
   | true => exact absurd (zdC.1 e) h
  have:i=l.length:=by simp at hi; omega
  subst this
  rw [hb,cond_false,Nat.sub_self,hg]
  simp [List.getD_eq_getElem?_getD]
theorem dflI (l:List Instr):∀ i,i<l.length→depFL (shF 0 (flI l) i)<40:=fun i h => by
 show depFL (flI l i)<40
 rw [flI_eq h]
 exact of_decide_eq_true (by kernel_rfl)
theorem litI (l:List Instr):∀ i,i<l.length→toAL (flI l i)=((l.map eInstr).map toAL).getD i []:=by
 intro i hi
 rw [flI_eq hi]
 simp [List.getD_eq_getElem?_getD,hi]
end Go.Proofs.YtablleokoifolaaGreatDoor
set_option linter.unusedVariables false
namespace Go.Proofs.YtablleokoifolaaGreatDoor
open Go
structure Typ where
 params:List Int
 result:Int
instance:Inhabited Typ:=⟨(Typ.mk ([]:List Int) 0)⟩
def eTyp (x:Typ):List FV:=[sV (eI .u8) x.params,.int .u8 x.result]
theorem zgN:∀ x,depFL (eTyp x)<40:=fun _ => of_decide_eq_true (by kernel_rfl)
structure Fnc where
 type_:Int
 locals:List Int
 body:List Instr
instance:Inhabited Fnc:=⟨(Fnc.mk 0 ([]:List Int) ([]:List Instr))⟩
def eFnc (x:Fnc):List FV:=[.int .u32 x.type_,sV (eI .u8) x.locals,sVI x.body]
theorem zgP:∀ x,depFL (eFnc x)<40:=fun _ => of_decide_eq_true (by kernel_rfl)
structure Lim where
 min_:Int
 has:Bool
 max_:Int
instance:Inhabited Lim:=⟨(Lim.mk 0 false 0)⟩
def eLim (x:Lim):List FV:=[.int .u32 x.min_,.bool x.has,.int .u32 x.max_]
theorem zcA:∀ x,depFL (eLim x)<40:=fun _ => of_decide_eq_true (by kernel_rfl)
structure Glo where
 kind:Int
 mut_:Bool
 init_:Instr
instance:Inhabited Glo:=⟨(Glo.mk 0 false (Instr.mk 0 0 0 0 0 ([]:List Instr) ([]:List Instr) ([]:List Int)))⟩
def eGlo (x:Glo):List FV:=[.int .u8 x.kind,.bool x.mut_,.int .u8 x.init_.op,.int .i64 x.init_.n,.int .u32 x.init_.align,.int .u32 x.init_.offset,.int .u8 x.init_.result,sVI x.init_.body,sVI x.init_.els,sV (eI .u32) x.init_.labels]
theorem zgO:∀ x,depFL (eGlo x)<40:=fun _ => of_decide_eq_true (by kernel_rfl)
structure Xpo where
 name:ByteArray
 what:Int
 index:Int
instance:Inhabited Xpo:=⟨(Xpo.mk (ByteArray.mk #[]) 0 0)⟩
def eXpo (x:Xpo):List FV:=[.str x.name,.int .u8 x.what,.int .u32 x.index]
theorem zgM:∀ x,depFL (eXpo x)<40:=fun _ => of_decide_eq_true (by kernel_rfl)
structure Ele where
 table:Int
 offset:Instr
 funcs:List Int
instance:Inhabited Ele:=⟨(Ele.mk 0 (Instr.mk 0 0 0 0 0 ([]:List Instr) ([]:List Instr) ([]:List Int)) ([]:List Int))⟩
def eEle (x:Ele):List FV:=[.int .u32 x.table,.int .u8 x.offset.op,.int .i64 x.offset.n,.int .u32 x.offset.align,.int .u32 x.offset.offset,.int .u8 x.offset.result,sVI x.offset.body,sVI x.offset.els,sV (eI .u32) x.offset.labels,sV (eI .u32) x.funcs]
theorem zgQ:∀ x,depFL (eEle x)<40:=fun _ => of_decide_eq_true (by kernel_rfl)
structure Dat where
 memory:Int
 offset:Instr
 bytes:List Int
instance:Inhabited Dat:=⟨(Dat.mk 0 (Instr.mk 0 0 0 0 0 ([]:List Instr) ([]:List Instr) ([]:List Int)) ([]:List Int))⟩
def eDat (x:Dat):List FV:=[.int .u32 x.memory,.int .u8 x.offset.op,.int .i64 x.offset.n,.int .u32 x.offset.align,.int .u32 x.offset.offset,.int .u8 x.offset.result,sVI x.offset.body,sVI x.offset.els,sV (eI .u32) x.offset.labels,sV (eI .u8) x.bytes]
theorem zgR:∀ x,depFL (eDat x)<40:=fun _ => of_decide_eq_true (by kernel_rfl)
structure Mdl where
 types:List Typ
 funcs:List Fnc
 tables:List Lim
 memories:List Lim
 globals:List Glo
 exports:List Xpo
 elems:List Ele
 datas:List Dat
instance:Inhabited Mdl:=⟨(Mdl.mk ([]:List Typ) ([]:List Fnc) ([]:List Lim) ([]:List Lim) ([]:List Glo) ([]:List Xpo) ([]:List Ele) ([]:List Dat))⟩
def eMdl (x:Mdl):List FV:=[sV eTyp x.types,sV eFnc x.funcs,sV eLim x.tables,sV eLim x.memories,sV eGlo x.globals,sV eXpo x.exports,sV eEle x.elems,sV eDat x.datas]
structure Frame where
 height:Int
 away:Bool
 dead:Bool
instance:Inhabited Frame:=⟨(Frame.mk 0 false false)⟩
def eFrame (x:Frame):List FV:=[.int .i64 x.height,.bool x.away,.bool x.dead]
theorem zwl:∀ x,depFL (eFrame x)<40:=fun _ => of_decide_eq_true (by kernel_rfl)
structure Checker where
 m:Mdl
 t:Typ
 locals:List Int
 stack:List Int
 frames:List Frame
 labels:List Int
 most:Int
 bad:Bool
instance:Inhabited Checker:=⟨(Checker.mk (Mdl.mk ([]:List Typ) ([]:List Fnc) ([]:List Lim) ([]:List Lim) ([]:List Glo) ([]:List Xpo) ([]:List Ele) ([]:List Dat)) (Typ.mk ([]:List Int) 0) ([]:List Int) ([]:List Int) ([]:List Frame) ([]:List Int) 0 false)⟩
def eChecker (x:Checker):List FV:=[sV eTyp x.m.types,sV eFnc x.m.funcs,sV eLim x.m.tables,sV eLim x.m.memories,sV eGlo x.m.globals,sV eXpo x.m.exports,sV eEle x.m.elems,sV eDat x.m.datas,sV (eI .u8) x.t.params,.int .u8 x.t.result,sV (eI .u8) x.locals,sV (eI .u8) x.stack,sV eFrame x.frames,sV (eI .u8) x.labels,.int .i64 x.most,.bool x.bad]
structure St8 where
 l:List Int
 under:Int
 away:Bool
 dead:Bool
 most:Int
 ok:Bool
instance:Inhabited St8:=⟨(St8.mk ([]:List Int) 0 false false 0 false)⟩
structure Env8 where
 m:Mdl
 result:Int
 locals:List Int
 labels:List Int
instance:Inhabited Env8:=⟨(Env8.mk (Mdl.mk ([]:List Typ) ([]:List Fnc) ([]:List Lim) ([]:List Lim) ([]:List Glo) ([]:List Xpo) ([]:List Ele) ([]:List Dat)) 0 ([]:List Int) ([]:List Int))⟩
def zaa (x:Checker):List (Nat×Ob):=[(1000,.st false [.d (sV eTyp x.m.types),.d (sV eFnc x.m.funcs),.d (sV eLim x.m.tables),.d (sV eLim x.m.memories),.d (sV eGlo x.m.globals),.d (sV eXpo x.m.exports),.d (sV eEle x.m.elems),.d (sV eDat x.m.datas),.d (sV (eI .u8) x.t.params),.d (.int .u8 x.t.result),.d (sV (eI .u8) x.locals),.ls 1001 0 x.stack.length,.ls 1002 0 x.frames.length,.ls 1003 0 x.labels.length,.d (.int .i64 x.most),.d (.bool x.bad)]),(1001,.sl false 1 x.stack.length (fl (eI .u8) x.stack)),(1002,.sl false 3 x.frames.length (fl eFrame x.frames)),(1003,.sl false 1 x.labels.length (fl (eI .u8) x.labels))]
end Go.Proofs.YtablleokoifolaaGreatDoor
set_option linter.unusedVariables false
set_option maxRecDepth 100000
namespace Go.Proofs.YtablleokoifolaaGreatDoor
open Go
def nmL:List ByteArray:=[(ByteArray.mk #[117,110,114,101,97,99,104,97,98,108,101]),(ByteArray.mk #[110,111,112]),(ByteArray.mk #[98,108,111,99,107]),(ByteArray.mk #[108,111,111,112]),(ByteArray.mk #[105,102]),(ByteArray.mk #[]),(ByteArray.mk #[]),(ByteArray.mk #[]),(ByteArray.mk #[]),(ByteArray.mk #[]),(ByteArray.mk #[]),(ByteArray.mk #[]),(ByteArray.mk #[98,114]),(ByteArray.mk #[98,114,95,105,102]),(ByteArray.mk #[98,114,95,116,97,98,108,101]),(ByteArray.mk #[114,101,116,117,114,110]),(ByteArray.mk #[99,97,108,108]),(ByteArray.mk #[99,97,108,108,95,105,110,100,105,114,101,99,116]),(ByteArray.mk #[]),(ByteArray.mk #[]),(ByteArray.mk #[]),(ByteArray.mk #[]),(ByteArray.mk #[]),(ByteArray.mk #[]),(ByteArray.mk #[]),(ByteArray.mk #[]),(ByteArray.mk #[100,114,111,112]),(ByteArray.mk #[115,101,108,101,99,116]),(ByteArray.mk #[]),(ByteArray.mk #[]),(ByteArray.mk #[]),(ByteArray.mk #[]),(ByteArray.mk #[108,111,99,97,108,46,103,101,116]),(ByteArray.mk #[108,111,99,97,108,46,115,101,116]),(ByteArray.mk #[108,111,99,97,108,46,116,101,101]),(ByteArray.mk #[103,108,111,98,97,108,46,103,101,116]),(ByteArray.mk #[103,108,111,98,97,108,46,115,101,116]),(ByteArray.mk #[]),(ByteArray.mk #[]),(ByteArray.mk #[]),(ByteArray.mk #[105,51,50,46,108,111,97,100]),(ByteArray.mk #[105,54,52,46,108,111,97,100]),(ByteArray.mk #[]),(ByteArray.mk #[]),(ByteArray.mk #[105,51,50,46,108,111,97,100,56,95,115]),(ByteArray.mk #[105,51,50,46,108,111,97,100,56,95,117]),(ByteArray.mk #[105,51,50,46,108,111,97,100,49,54,95,115]),(ByteArray.mk #[105,51,50,46,108,111,97,100,49,54,95,117]),(ByteArray.mk #[105,54,52,46,108,111,97,100,56,95,115]),(ByteArray.mk #[105,54,52,46,108,111,97,100,56,95,117]),(ByteArray.mk #[105,54,52,46,108,111,97,100,49,54,95,115]),(ByteArray.mk #[105,54,52,46,108,111,97,100,49,54,95,117]),(ByteArray.mk #[105,54,52,46,108,111,97,100,51,50,95,115]),(ByteArray.mk #[105,54,52,46,108,111,97,100,51,50,95,117]),(ByteArray.mk #[105,51,50,46,115,116,111,114,101]),(ByteArray.mk #[105,54,52,46,115,116,111,114,101]),(ByteArray.mk #[]),(ByteArray.mk #[]),(ByteArray.mk #[105,51,50,46,115,116,111,114,101,56]),(ByteArray.mk #[105,51,50,46,115,116,111,114,101,49,54]),(ByteArray.mk #[105,54,52,46,115,116,111,114,101,56]),(ByteArray.mk #[105,54,52,46,115,116,111,114,101,49,54]),(ByteArray.mk #[105,54,52,46,115,116,111,114,101,51,50]),(ByteArray.mk #[109,101,109,111,114,121,46,115,105,122,101]),(ByteArray.mk #[109,101,109,111,114,121,46,103,114,111,119]),(ByteArray.mk #[105,51,50,46,99,111,110,115,116]),(ByteArray.mk #[105,54,52,46,99,111,110,115,116]),(ByteArray.mk #[]),(ByteArray.mk #[]),(ByteArray.mk #[105,51,50,46,101,113,122]),(ByteArray.mk #[105,51,50,46,101,113]),(ByteArray.mk #[105,51,50,46,110,101]),(ByteArray.mk #[105,51,50,46,108,116,95,115]),(ByteArray.mk #[105,51,50,46,108,116,95,117]),(ByteArray.mk #[105,51,50,46,103,116,95,115]),(ByteArray.mk #[105,51,50,46,103,116,95,117]),(ByteArray.mk #[105,51,50,46,108,101,95,115]),(ByteArray.mk #[105,51,50,46,108,101,95,117]),(ByteArray.mk #[105,51,50,46,103,101,95,115]),(ByteArray.mk #[105,51,50,46,103,101,95,117]),(ByteArray.mk #[105,54,52,46,101,113,122]),(ByteArray.mk #[105,54,52,46,101,113]),(ByteArray.mk #[105,54,52,46,110,101]),(ByteArray.mk #[105,54,52,46,108,116,95,115]),(ByteArray.mk #[105,54,52,46,108,116,95,117]),(ByteArray.mk #[105,54,52,46,103,116,95,115]),(ByteArray.mk #[105,54,52,46,103,116,95,117]),(ByteArray.mk #[105,54,52,46,108,101,95,115]),(ByteArray.mk #[105,54,52,46,108,101,95,117]),(ByteArray.mk #[105,54,52,46,103,101,95,115]),(ByteArray.mk #[105,54,52,46,103,101,95,117]),(ByteArray.mk #[]),(ByteArray.mk #[]),(ByteArray.mk #[]),(ByteArray.mk #[]),(ByteArray.mk #[]),(ByteArray.mk #[]),(ByteArray.mk #[]),(ByteArray.mk #[]),(ByteArray.mk #[]),(ByteArray.mk #[]),(ByteArray.mk #[]),(ByteArray.mk #[]),(ByteArray.mk #[105,51,50,46,99,108,122]),(ByteArray.mk #[105,51,50,46,99,116,122]),(ByteArray.mk #[105,51,50,46,112,111,112,99,110,116]),(ByteArray.mk #[105,51,50,46,97,100,100]),(ByteArray.mk #[105,51,50,46,115,117,98]),(ByteArray.mk #[105,51,50,46,109,117,108]),(ByteArray.mk #[105,51,50,46,100,105,118,95,115]),(ByteArray.mk #[105,51,50,46,100,105,118,95,117]),(ByteArray.mk #[105,51,50,46,114,101,109,95,115]),(ByteArray.mk #[105,51,50,46,114,101,109,95,117]),(ByteArray.mk #[105,51,50,46,97,110,100]),(ByteArray.mk #[105,51,50,46,111,114]),(ByteArray.mk #[105,51,50,46,120,111,114]),(ByteArray.mk #[105,51,50,46,115,104,108]),(ByteArray.mk #[105,51,50,46,115,104,114,95,115]),(ByteArray.mk #[105,51,50,46,115,104,114,95,117]),(ByteArray.mk #[105,51,50,46,114,111,116,108]),(ByteArray.mk #[105,51,50,46,114,111,116,114]),(ByteArray.mk #[105,54,52,46,99,108,122]),(ByteArray.mk #[105,54,52,46,99,116,122]),(ByteArray.mk #[105,54,52,46,112,111,112,99,110,116]),(ByteArray.mk #[105,54,52,46,97,100,100]),(ByteArray.mk #[105,54,52,46,115,117,98]),(ByteArray.mk #[105,54,52,46,109,117,108]),(ByteArray.mk #[105,54,52,46,100,105,118,95,115]),(ByteArray.mk #[105,54,52,46,100,105,118,95,117]),(ByteArray.mk #[105,54,52,46,114,101,109,95,115]),(ByteArray.mk #[105,54,52,46,114,101,109,95,117]),(ByteArray.mk #[105,54,52,46,97,110,100]),(ByteArray.mk #[105,54,52,46,111,114]),(ByteArray.mk #[105,54,52,46,120,111,114]),(ByteArray.mk #[105,54,52,46,115,104,108]),(ByteArray.mk #[105,54,52,46,115,104,114,95,115]),(ByteArray.mk #[105,54,52,46,115,104,114,95,117]),(ByteArray.mk #[105,54,52,46,114,111,116,108]),(ByteArray.mk #[105,54,52,46,114,111,116,114]),(ByteArray.mk #[]),(ByteArray.mk #[]),(ByteArray.mk #[]),(ByteArray.mk #[]),(ByteArray.mk #[]),(ByteArray.mk #[]),(ByteArray.mk #[]),(ByteArray.mk #[]),(ByteArray.mk #[]),(ByteArray.mk #[]),(ByteArray.mk #[]),(ByteArray.mk #[]),(ByteArray.mk #[]),(ByteArray.mk #[]),(ByteArray.mk #[]),(ByteArray.mk #[]),(ByteArray.mk #[]),(ByteArray.mk #[]),(ByteArray.mk #[]),(ByteArray.mk #[]),(ByteArray.mk #[]),(ByteArray.mk #[]),(ByteArray.mk #[]),(ByteArray.mk #[]),(ByteArray.mk #[]),(ByteArray.mk #[]),(ByteArray.mk #[]),(ByteArray.mk #[]),(ByteArray.mk #[105,51,50,46,119,114,97,112,95,105,54,52]),(ByteArray.mk #[]),(ByteArray.mk #[]),(ByteArray.mk #[]),(ByteArray.mk #[]),(ByteArray.mk #[105,54,52,46,101,120,116,101,110,100,95,105,51,50,95,115]),(ByteArray.mk #[105,54,52,46,101,120,116,101,110,100,95,105,51,50,95,117])]
def nmF:List FV:=nmL.map .str
def nmV (n:Nat):ByteArray:=nmL.getD n ⟨#[]⟩
theorem zrj:CF E 96 [] (.agg nmF):=zwF 40 (by kernel_rfl)
def zmU (p0:Int):Option ByteArray:=some (if decide (wI p0≥(174:Int))=true then ⟨#[]⟩ else nmV p0.toNat)
theorem zyx {i:Int} (h:0≤i∧i<((174:Nat):Int)):nmF.getD i.toNat .undef=.str (nmV i.toNat):=by
 have hl:nmL.length=174:=rfl
 have:i.toNat<nmL.length:=by omega
 simp [nmF,nmV,List.getD_eq_getElem?_getD,this]
theorem zvp (p0:Int) (h0:0≤p0∧p0<256) (r:ByteArray) (H:zmU p0=some r):CF E 88 [.int .u8 p0] (.str r):=by
 refine zeg (A:=zoe) zre rfl fun fr => ?_
 obtain rfl:=Option.some.inj H
 clear H
 have hw:wI p0=p0:=by unfold wI; rw [IntKind.wrap_i64]; omega
 refine AW2.seq ?_
 refine AW2.rg [] [0] [] [] ⟨[(0,.d (.int .u8 p0))],[]⟩ (And.intro True.intro True.intro) (by kernel_rfl) ?_
 refine AW2.seq ?_
 refine AW2.seq ?_
 refine AW2.rg [.r (.agg nmF)] [0,7] [] [] ⟨[(0,.d (.int .u8 p0)),(7,.d (.bool (decide (wI p0≥(174:Int)))))],[]⟩ (And.intro (And.intro zrj True.intro) True.intro) (by kernel_rfl) ?_
 refine AW2.cond (b:=decide (wI p0≥(174:Int))) rfl (fun hc => ?_) (fun hc => ?_)
 ·rw [if_pos hc]
  refine AW2.seq ?_
  refine AW2.rg [] [2] [] [] ⟨[(2,.d (.str ⟨#[]⟩))],[]⟩ (And.intro True.intro True.intro) (by kernel_rfl) ?_
  refine AW2.ret ?_
  exact retP_mk2 True.intro (by kernel_rfl)
 ·rw [if_neg (by simp [hc])]
  have hb:0≤p0∧p0<((174:Nat):Int):=by
   have:=of_decide_eq_false hc
   rw [hw] at this; omega
  refine AW2.skip ?_
  refine AW2.seq ?_
  refine AW2.rg [.r (.agg nmF),.r (.str (nmV p0.toNat))] [2] [] [] ⟨[(2,.d (.str (nmV p0.toNat)))],[]⟩ (And.intro (And.intro zrj (And.intro hb (And.intro (zyx hb) True.intro))) True.intro) (by kernel_rfl) ?_
  refine AW2.ret ?_
  exact retP_mk2 True.intro (by kernel_rfl)
def zmg (p0:Int):Option ByteArray:=gd (0≤p0∧p0<256) (zmU p0)
theorem zvo (p0:Int) (r:ByteArray) (H:zmg p0=some r):CF E 88 [.int .u8 p0] (.str r):=by
 obtain ⟨h,H⟩:=zaf H
 exact zvp p0 h r H
def zcz (p0:Option Int):Option Int:=some (p0.getD 0)
theorem zbx (p0:Option Int) (r:Int) (H:zcz p0=some r):CF E 9 [.err 45 p0] (.int .i64 r):=by
 obtain rfl:=Option.some.inj H
 cases p0 with
 | none => exact zuJ
 | some n => exact zyC n
def zbM:Option Bool:=some true
theorem zcm (r:Bool) (H:zbM=some r):CF E 2 [] (.bool r):=by
 obtain rfl:=Option.some.inj H
 exact zyB
end Go.Proofs.YtablleokoifolaaGreatDoor
