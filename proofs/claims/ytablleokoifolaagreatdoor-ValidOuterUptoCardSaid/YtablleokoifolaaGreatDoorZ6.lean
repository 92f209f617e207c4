/- Part 6 of the proof that ValidOuterUptoCardSaid: for every input that fits the row the law answers true and its arguments read as before, over the world as the row lays it. -/
import Derived.Test.YtablleokoifolaaGreatDoorZ5
set_option linter.unusedVariables false
set_option linter.unusedSimpArgs false
set_option maxRecDepth 100000
namespace Go.Proofs.YtablleokoifolaaGreatDoor
open Go
theorem wI_nat (i:Nat) (h:i<140737488355328):wI ((i:Int)+1)=((i+1:Nat):Int):=by
 rw [wI_small (by omega) (by omega)]; omega
theorem takeS {α:Type} [Inhabited α] (l:List α) (i:Nat) (h:i<l.length):l.take i++[l.getD (i:Int).toNat default]=l.take (i+1):=by
 rw [Int.toNat_natCast,List.take_add_one]
 simp [List.getD_eq_getElem?_getD,h]
theorem takeL' {α:Type} (l:List α) (i:Nat) (h:i≤l.length) (h':¬ i<l.length):l.take i=l:=by
 have:i=l.length:=by omega
 subst this; exact List.take_length
theorem dltT {a b:Nat} (h:a<b):decide ((a:Int)<(b:Int))=true:=decide_eq_true (by omega)
theorem dltF {a b:Nat} (h:¬ a<b):¬ decide ((a:Int)<(b:Int))=true:=fun e => by have:=of_decide_eq_true e; omega
theorem getD_mem {α:Type} [Inhabited α] (l:List α) (i:Nat) (h:i<l.length):l.getD (i:Int).toNat default∈l:=by
 rw [Int.toNat_natCast,List.getD_eq_getElem?_getD,List.getElem?_eq_getElem h]
 exact List.getElem_mem h
theorem tlen {α:Type} (l:List α) (i:Nat):(l.take i).length≤i:=by simp; omega
theorem zve (l:List Int) (hl:l.length<1000000000):∀ k (i:Nat),i≤l.length→l.length - i<k→zcg k l (l.take i) (i:Int)=some l:=by
 intro k
 induction k with
 | zero => intro i _ h; omega
 | succ k ih => 
  intro i h1 h2
  have:=tlen l i
  simp only [zcg]
  by_cases h:i<l.length
  ·rw [if_pos (dltT h),zax (by omega),zax (by omega),takeS l i h,wI_nat i (by omega)]
   exact ih (i+1) h (by omega)
  ·rw [if_neg (dltF h),takeL' l i h1 h]
theorem zvI (K:Nat) (l:List Int) (hl:l.length<1000000000) (hK:l.length<K):zdu K l=some l:=by
 unfold zdu
 have:=zve l hl K 0 (Nat.zero_le _) (by omega)
 simp only [List.take_zero] at this
 rw [show (0:Int)=((0:Nat):Int) from rfl,this]; rfl
mutual
def wtI:Instr→Nat
 | .mk _ _ _ _ _ b e _ => 3+wtL b+wtL e
def wtL:List Instr→Nat
 | [] => 1
 | x :: l => wtI x+wtL l
end
theorem wtI_eq (x:Instr):wtI x=3+wtL x.body+wtL x.els:=by cases x; simp only [wtI,Instr.body,Instr.els]
theorem wtL_pos (l:List Instr):1≤wtL l∧l.length<wtL l:=by
 induction l with
 | nil => simp [wtL]
 | cons x l ih => simp only [wtL,List.length_cons,wtI_eq]; omega
theorem wtL_mem {l:List Instr} {x:Instr} (h:x∈l):wtI x+1≤wtL l:=by
 induction l with
 | nil => cases h
 | cons y l ih => 
  simp only [wtL]
  rcases List.mem_cons.1 h with rfl | h
  ·have:=(wtL_pos l).1; omega
  ·have:=ih h; omega
theorem zwX:∀ (K:Nat) (l:List Instr),wtL l<K→wtL l<1000000000→zbt K l=some l:=by
 intro K
 induction K with
 | zero => intro l h; omega
 | succ k ih => 
  intro l h hs
  have hw:=wtL_pos l
  simp only [zbt]
  have key:∀ (q i:Nat),i≤l.length→l.length - i<q→lpN q (fun (rec6:(List Instr)×Int→Option (List Instr)) v => match v with | (a4,a5) => (if (decide (a5<(l.length:Int)))=true then gd (0≤a5∧a5<(l.length:Int)) ((zbt k ((l.getD a5.toNat default).body)).bind fun x8 => ((zbt k ((l.getD a5.toNat default).els)).bind fun x10 => gd ((a4.length+1) * 104≤140737488355328) (rec6 ((a4++([(Instr.mk ((l.getD a5.toNat default).op) ((l.getD a5.toNat default).n) ((l.getD a5.toNat default).align) ((l.getD a5.toNat default).offset) ((l.getD a5.toNat default).result) x8 x10 ((l.getD a5.toNat default).labels))]:List Instr)),(wI (a5+1)))))) else some a4)) (l.take i,(i:Int))=some l:=by
   intro q
   induction q with
   | zero => intro i _ h; omega
   | succ q ihq => 
    intro i h1 h2
    have:=tlen l i
    simp only [lpN]
    by_cases h:i<l.length
    ·have hm:=getD_mem l i h
     have hx:=wtL_mem hm
     rw [wtI_eq] at hx
     rw [if_pos (dltT h),zax (by omega),ih _ (by omega) (by omega),Option.bind_some,ih _ (by omega) (by omega),Option.bind_some,zax (by omega),Instr.eta,takeS l i h,wI_nat i (by omega)]
     exact ihq (i+1) h (by omega)
    ·rw [if_neg (dltF h),takeL' l i h1 h]
  have:=key k 0 (Nat.zero_le _) (by omega)
  rw [List.take_zero] at this
  exact congrArg (fun o => o.bind (fun j1 => some j1)) this
theorem zwU (K:Nat) (x:Instr) (h:wtI x+1<K) (hs:wtI x+1<1000000000):zef K x=some x:=by
 unfold zef
 have hw:wtL [x]=wtI x+1:=by simp [wtL]
 rw [zwX K [x] (by omega) (by omega)]
 rfl
structure GvOk (K:Nat) (m:Mdl):Prop where
 K0:K<1000000000
 types:m.types.length<K
 typ:∀ t∈m.types,t.params.length<K
 funcs:m.funcs.length<K
 fnc:∀ f∈m.funcs,f.locals.length<K∧wtL f.body<K
 tables:m.tables.length<K
 memories:m.memories.length<K
 globals:m.globals.length<K
 glo:∀ g∈m.globals,wtI g.init_+1<K
 exports:m.exports.length<K
 elems:m.elems.length<K
 ele:∀ e∈m.elems,wtI e.offset+1<K
 datas:m.datas.length<K
 dat:∀ d∈m.datas,wtI d.offset+1<K
theorem zyN {K:Nat} {m:Mdl} (o:GvOk K m):∀ k (i:Nat),i≤m.types.length→m.types.length - i<k→zbl k K m (m.types.take i) (i:Int)=some m.types:=by
 intro k
 induction k with
 | zero => intro i _ h; omega
 | succ k ih => 
  intro i h1 h2
  have:=tlen m.types i; have:=o.K0; have:=o.types
  simp only [zbl]
  by_cases h:i<m.types.length
  ·have hm:=o.typ _ (getD_mem m.types i h)
   rw [if_pos (dltT h),zax (by omega),zvI K _ (by omega) hm,Option.bind_some,zax (by omega),zax (by omega)]
   rw [show ∀ t:Typ,Typ.mk t.params t.result=t from fun _ => rfl,takeS _ i h,wI_nat i (by omega)]
   exact ih (i+1) h (by omega)
  ·rw [if_neg (dltF h),takeL' _ i h1 h]
theorem zyO {K:Nat} {m:Mdl} (o:GvOk K m):∀ k (i:Nat),i≤m.funcs.length→m.funcs.length - i<k→zbm k K m (m.funcs.take i) (i:Int)=some m.funcs:=by
 intro k
 induction k with
 | zero => intro i _ h; omega
 | succ k ih => 
  intro i h1 h2
  have:=tlen m.funcs i; have:=o.K0; have:=o.funcs
  simp only [zbm]
  by_cases h:i<m.funcs.length
  ·have hm:=o.fnc _ (getD_mem m.funcs i h)
   rw [if_pos (dltT h),zax (by omega),zax (by omega),zvI K _ (by omega) hm.1,Option.bind_some,zax (by omega),zwX K _ hm.2 (by omega),Option.bind_some,zax (by omega)]
   rw [show ∀ t:Fnc,Fnc.mk t.type_ t.locals t.body=t from fun _ => rfl,takeS _ i h,wI_nat i (by omega)]
   exact ih (i+1) h (by omega)
  ·rw [if_neg (dltF h),takeL' _ i h1 h]
theorem zyP {K:Nat} {m:Mdl} (o:GvOk K m):∀ k (i:Nat),i≤m.tables.length→m.tables.length - i<k→zbn k m (m.tables.take i) (i:Int)=some m.tables:=by
 intro k
 induction k with
 | zero => intro i _ h; omega
 | succ k ih => 
  intro i h1 h2
  have:=tlen m.tables i; have:=o.K0; have:=o.tables
  simp only [zbn]
  by_cases h:i<m.tables.length
  ·rw [if_pos (dltT h),zax (by omega),zax (by omega),takeS _ i h,wI_nat i (by omega)]
   exact ih (i+1) h (by omega)
  ·rw [if_neg (dltF h),takeL' _ i h1 h]
theorem zyQ {K:Nat} {m:Mdl} (o:GvOk K m):∀ k (i:Nat),i≤m.memories.length→m.memories.length - i<k→zbo k m (m.memories.take i) (i:Int)=some m.memories:=by
 intro k
 induction k with
 | zero => intro i _ h; omega
 | succ k ih => 
  intro i h1 h2
  have:=tlen m.memories i; have:=o.K0; have:=o.memories
  simp only [zbo]
  by_cases h:i<m.memories.length
  ·rw [if_pos (dltT h),zax (by omega),zax (by omega),takeS _ i h,wI_nat i (by omega)]
   exact ih (i+1) h (by omega)
  ·rw [if_neg (dltF h),takeL' _ i h1 h]
theorem zyR {K:Nat} {m:Mdl} (o:GvOk K m):∀ k (i:Nat),i≤m.globals.length→m.globals.length - i<k→zbp k K m (m.globals.take i) (i:Int)=some m.globals:=by
 intro k
 induction k with
 | zero => intro i _ h; omega
 | succ k ih => 
  intro i h1 h2
  have:=tlen m.globals i; have:=o.K0; have:=o.globals
  simp only [zbp]
  by_cases h:i<m.globals.length
  ·have hm:=o.glo _ (getD_mem m.globals i h)
   rw [if_pos (dltT h),zax (by omega),zax (by omega),zax (by omega),zwU K _ hm (by omega),Option.bind_some,zax (by omega)]
   rw [show ∀ t:Glo,Glo.mk t.kind t.mut_ t.init_=t from fun _ => rfl,takeS _ i h,wI_nat i (by omega)]
   exact ih (i+1) h (by omega)
  ·rw [if_neg (dltF h),takeL' _ i h1 h]
theorem zyS {K:Nat} {m:Mdl} (o:GvOk K m):∀ k (i:Nat),i≤m.exports.length→m.exports.length - i<k→zbq k m (m.exports.take i) (i:Int)=some m.exports:=by
 intro k
 induction k with
 | zero => intro i _ h; omega
 | succ k ih => 
  intro i h1 h2
  have:=tlen m.exports i; have:=o.K0; have:=o.exports
  simp only [zbq]
  by_cases h:i<m.exports.length
  ·rw [if_pos (dltT h),zax (by omega),zax (by omega),takeS _ i h,wI_nat i (by omega)]
   exact ih (i+1) h (by omega)
  ·rw [if_neg (dltF h),takeL' _ i h1 h]
theorem zyT {K:Nat} {m:Mdl} (o:GvOk K m):∀ k (i:Nat),i≤m.elems.length→m.elems.length - i<k→zbr k K m (m.elems.take i) (i:Int)=some m.elems:=by
 intro k
 induction k with
 | zero => intro i _ h; omega
 | succ k ih => 
  intro i h1 h2
  have:=tlen m.elems i; have:=o.K0; have:=o.elems
  simp only [zbr]
  by_cases h:i<m.elems.length
  ·have hm:=o.ele _ (getD_mem m.elems i h)
   rw [if_pos (dltT h),zax (by omega),zax (by omega),zwU K _ hm (by omega),Option.bind_some,zax (by omega),zax (by omega)]
   rw [show ∀ t:Ele,Ele.mk t.table t.offset t.funcs=t from fun _ => rfl,takeS _ i h,wI_nat i (by omega)]
   exact ih (i+1) h (by omega)
  ·rw [if_neg (dltF h),takeL' _ i h1 h]
theorem zyU {K:Nat} {m:Mdl} (o:GvOk K m):∀ k (i:Nat),i≤m.datas.length→m.datas.length - i<k→zbs k K m (m.datas.take i) (i:Int)=some m.datas:=by
 intro k
 induction k with
 | zero => intro i _ h; omega
 | succ k ih => 
  intro i h1 h2
  have:=tlen m.datas i; have:=o.K0; have:=o.datas
  simp only [zbs]
  by_cases h:i<m.datas.length
  ·have hm:=o.dat _ (getD_mem m.datas i h)
   rw [if_pos (dltT h),zax (by omega),zax (by omega),zwU K _ hm (by omega),Option.bind_some,zax (by omega),zax (by omega)]
   rw [show ∀ t:Dat,Dat.mk t.memory t.offset t.bytes=t from fun _ => rfl,takeS _ i h,wI_nat i (by omega)]
   exact ih (i+1) h (by omega)
  ·rw [if_neg (dltF h),takeL' _ i h1 h]
theorem giveModule_id {K:Nat} {m:Mdl} (o:GvOk K m):zbw K m=some m:=by
 unfold zbw
 have h7:=zyN o K 0 (Nat.zero_le _) (by have:=o.types; omega)
 have h6:=zyO o K 0 (Nat.zero_le _) (by have:=o.funcs; omega)
 have h5:=zyP o K 0 (Nat.zero_le _) (by have:=o.tables; omega)
 have h4:=zyQ o K 0 (Nat.zero_le _) (by have:=o.memories; omega)
 have h3:=zyR o K 0 (Nat.zero_le _) (by have:=o.globals; omega)
 have h2:=zyS o K 0 (Nat.zero_le _) (by have:=o.exports; omega)
 have h1:=zyT o K 0 (Nat.zero_le _) (by have:=o.elems; omega)
 have h0:=zyU o K 0 (Nat.zero_le _) (by have:=o.datas; omega)
 simp only [List.take_zero] at h0 h1 h2 h3 h4 h5 h6 h7
 simp only [show (0:Int)=((0:Nat):Int) from rfl]
 rw [h7,Option.bind_some,h6,Option.bind_some,h5,Option.bind_some,h4,Option.bind_some,h3,Option.bind_some,h2,Option.bind_some,h1,Option.bind_some,h0]
 rfl
def stepC (k:Nat) (c:Checker) (x:Instr):Option Checker:=
 if c.bad=true then some c else if decide (x.op<(26:Int))=true then zab k c x else zah c x
theorem zxB (k:Nat) (l:List Instr) {c:Checker} (h:c.bad=true):l.foldlM (stepC k) c=some c:=by
 induction l with
 | nil => rfl
 | cons x l ih => 
  rw [List.foldlM_cons]
  have:stepC k c x=some c:=by unfold stepC; rw [if_pos h]
  rw [this]; exact ih
theorem dropS {α:Type} [Inhabited α] (l:List α) (i:Nat) (h:i<l.length):l.drop i=l.getD (i:Int).toNat default :: l.drop (i+1):=by
 rw [Int.toNat_natCast,List.drop_eq_getElem_cons h]
 simp [List.getD_eq_getElem?_getD,h]
theorem zwV (k:Nat) (c:Checker) (l:List Instr) (hk:l.length<k) (hs:l.length<1000000000):zal (k+1) c l=l.foldlM (stepC k) c:=by
 simp only [zal]
 have key:∀ (q i:Nat) (c:Checker),i≤l.length→l.length - i<q→lpN q (fun (rec5:Checker×Int→Option (Checker)) v => match v with | (a3,a4) => (if (decide (a4<(l.length:Int)))=true then gd (0≤a4∧a4<(l.length:Int)) (if a3.bad=true then some a3 else (if (decide (((l.getD a4.toNat default).op)<(26:Int)))=true then ((zab k a3 (l.getD a4.toNat default)).bind fun x7 => rec5 (x7,(wI (a4+1)))) else ((zah a3 (l.getD a4.toNat default)).bind fun x9 => rec5 (x9,(wI (a4+1)))))) else some a3)) (c,(i:Int))=(l.drop i).foldlM (stepC k) c:=by
  intro q
  induction q with
  | zero => intro i c _ h; omega
  | succ q ih => 
   intro i c h1 h2
   simp only [lpN]
   by_cases h:i<l.length
   ·rw [if_pos (dltT h),zax (by omega),dropS l i h,List.foldlM_cons]
    by_cases hb:c.bad=true
    ·rw [if_pos hb]
     have:stepC k c (l.getD (i:Int).toNat default)=some c:=by unfold stepC; rw [if_pos hb]
     rw [this]
     exact (zxB k _ hb).symm
    ·rw [if_neg hb]
     unfold stepC
     rw [if_neg hb,wI_nat i (by omega)]
     split
     ·cases zab k c (l.getD (i:Int).toNat default) with
      | none => rfl
      | some c' => exact ih (i+1) c' h (by omega)
     ·cases zah c (l.getD (i:Int).toNat default) with
      | none => rfl
      | some c' => exact ih (i+1) c' h (by omega)
   ·rw [if_neg (dltF h),List.drop_of_length_le (by omega)]
    rfl
 exact key k 0 c (Nat.zero_le _) (by omega)
theorem w1:wI (((1:Nat):Int) - 1)=0:=by decide
def c0 (m:Mdl) (t:Typ) (ls:List Int):Checker:=Checker.mk m t ls [] [Frame.mk 0 false false] [t.result] 0 false
def F0:Frame:=Frame.mk 0 false false
def cL (m:Mdl) (t:Typ) (ls:List Int) (n:Nat) (mo:Int) (b aw:Bool):Checker:=
 Checker.mk m t ls [] (List.replicate n F0++[Frame.mk 0 aw false]) (List.replicate (n+1) 0) mo b
def wr (os:List Int) (l:List Instr):List Instr:=os.foldl (fun l o => [Instr.mk o 0 0 0 0 l [] []]) l
structure Ctx where
 m:Mdl
 t:Typ
 ls:List Int
 un:List Int
 fr:List Frame
 lb:List Int
def CC (Γ:Ctx) (l:List Int) (aw dd:Bool) (mo:Int) (bd:Bool):Checker:=
 Checker.mk Γ.m Γ.t Γ.ls (Γ.un++l) (Γ.fr++[Frame.mk (Γ.un.length:Int) aw dd]) Γ.lb mo bd
def Ctx.env (Γ:Ctx):Env8:=Env8.mk Γ.m Γ.t.result Γ.ls Γ.lb
structure Gd (Γ:Ctx) (N:Nat):Prop where
 un:Γ.un.length+N<1000000000000
 fr:Γ.fr.length<1000000000
 lb:Γ.lb.length<1000000000
theorem Gd.mono {Γ:Ctx} {N M:Nat} (g:Gd Γ N) (h:M≤N):Gd Γ M:=⟨by have:=g.un; omega,g.fr,g.lb⟩
theorem CC_fl (Γ:Ctx) (l:List Int) (aw dd:Bool) (mo:Int) (bd:Bool):(((CC Γ l aw dd mo bd).frames.length:Nat):Int)=((Γ.fr.length+1:Nat):Int):=by simp [CC]
theorem CC_top (Γ:Ctx) (l:List Int) (aw dd:Bool) (mo:Int) (bd:Bool):(CC Γ l aw dd mo bd).frames.getD (Γ.fr.length:Int).toNat default=Frame.mk (Γ.un.length:Int) aw dd:=by
 rw [Int.toNat_natCast,List.getD_eq_getElem?_getD]; simp [CC]
theorem wB (n:Nat) (h:n<1000000000000):wI (((n+1:Nat):Int) - 1)=(n:Int):=by rw [wI_small (by omega) (by omega)]; omega
def tV (l:List Int) (k:Int):Int:=if k=0 then k else match l.getLast? with | none => k | some x => if x=1 then k else x
def tL (l:List Int) (k:Int):List Int:=if k=0 then l else l.dropLast
def tB (l:List Int) (aw bd:Bool) (k:Int):Bool:=if k=0 then bd else match l.getLast? with | none => bd||!aw | some x => bd||(x != k&&(x != 1&&k != 1))
theorem zto (Γ:Ctx) (l:List Int) (aw dd:Bool) (mo:Int) (bd:Bool) (k:Int) (g:Gd Γ l.length) :
  zac (CC Γ l aw dd mo bd) k=some (tV l k,CC Γ (tL l k) aw dd mo (tB l aw bd k)):=by
 have hf:=g.fr; have hu:=g.un
 unfold zac
 rw [CC_fl,wB _ (by omega),zax (by omega),CC_top]
 by_cases hk:k=0
 ·rw [if_pos (by simpa using hk)]
  simp [tV,tL,tB,hk]
 rw [if_neg (by simpa using hk)]
 rcases List.eq_nil_or_concat l with rfl | ⟨l,x,rfl⟩
 ·have e:(((CC Γ [] aw dd mo bd).stack.length:Nat):Int)=(Γ.un.length:Int):=by simp [CC]
  rw [e,if_pos (by simp)]
  simp only [tV,tL,tB,if_neg hk,List.getLast?_nil,List.dropLast_nil]
  cases bd <;> rfl
 ·simp only [List.concat_eq_append] at hu ⊢
  have e:(((CC Γ (l++[x]) aw dd mo bd).stack.length:Nat):Int)=((Γ.un.length+l.length+1:Nat):Int):=by simp [CC]; omega
  have e2:(CC Γ (l++[x]) aw dd mo bd).stack.getD ((Γ.un.length+l.length:Nat):Int).toNat default=x:=by
   rw [Int.toNat_natCast,List.getD_eq_getElem?_getD]
   simp only [CC,← List.append_assoc]
   rw [List.getElem?_append_right (by simp)]
   simp
  have e3:List.take ((Γ.un.length+l.length:Nat):Int).toNat (CC Γ (l++[x]) aw dd mo bd).stack=Γ.un++l:=by
   rw [Int.toNat_natCast]
   simp only [CC,← List.append_assoc]
   rw [List.take_append_of_le_length (by simp),← List.length_append,List.take_length]
  simp only [List.length_append,List.length_cons,List.length_nil] at hu
  rw [e,wB _ (by omega),if_neg (by simp; omega),zax (by omega),zax (by omega),e2,e3]
  simp only [tV,tL,tB,if_neg hk,List.getLast?_append,List.getLast?_singleton,List.dropLast_concat,Option.some_or]
  have e4:(if ((x != k)&&((x != (1:Int))&&(k != (1:Int))))=true then some (Checker.mk Γ.m Γ.t Γ.ls (Γ.un++l) (Γ.fr++[Frame.mk (Γ.un.length:Int) aw dd]) Γ.lb mo true) else some (Checker.mk Γ.m Γ.t Γ.ls (Γ.un++l) (Γ.fr++[Frame.mk (Γ.un.length:Int) aw dd]) Γ.lb mo bd))=some (CC Γ l aw dd mo (bd||(x != k&&(x != 1&&k != 1)))):=by
   cases (x != k&&(x != 1&&k != 1)) <;> cases bd <;> rfl
  refine (congrArg (fun o => Option.bind o _) e4).trans ?_
  rw [Option.bind_some]
  by_cases hx:x=1
  ·rw [if_pos (by simpa using hx),if_pos hx]
  ·rw [if_neg (by simpa using hx),if_neg hx]
theorem zxS (Γ:Ctx) (l:List Int) (aw dd:Bool) (mo:Int) (bd:Bool) (k:Int) (g:Gd Γ l.length) :
  zag (CC Γ l aw dd mo bd) k=some (if k=0 then CC Γ l aw dd mo bd else CC Γ (l++[k]) aw dd (if (!aw&&!dd)=true then mxI mo ((Γ.un.length+l.length+1:Nat):Int) else mo) bd):=by
 have hf:=g.fr; have hu:=g.un
 unfold zag
 by_cases hk:k=0
 ·rw [if_pos (by simpa using hk),if_pos hk]
 have hs:(CC Γ l aw dd mo bd).stack.length=Γ.un.length+l.length:=by simp [CC]
 have hs2:((CC Γ l aw dd mo bd).stack++[k]).length=Γ.un.length+l.length+1:=by simp [CC]; omega
 rw [if_neg (by simpa using hk),if_neg hk,zax (by omega),CC_fl,wB _ (by omega),zax (by omega),CC_top,hs2]
 have e:((CC Γ l aw dd mo bd).stack++[k])=Γ.un++(l++[k]):=by simp [CC]
 rw [e]
 cases (!aw&&!dd) <;> rfl
theorem zvG (Γ:Ctx) (l:List Int) (aw dd:Bool) (mo:Int) (bd:Bool) (g:Gd Γ l.length) :
  zar (CC Γ l aw dd mo bd)=some (CC Γ [] true dd mo bd):=by
 have hf:=g.fr; have hu:=g.un
 unfold zar
 have hs:(CC Γ l aw dd mo bd).stack.length=Γ.un.length+l.length:=by simp [CC]
 rw [CC_fl,wB _ (by omega),zax (by omega),CC_top,zax (by rw [hs]; exact ⟨Int.le_refl 0,by simp,by simp; omega⟩)]
 simp only [CC,Int.toNat_natCast,Option.some.injEq,Checker.mk.injEq,true_and,and_true]
 refine ⟨by rw [List.take_append_of_le_length (Nat.le_refl _),List.take_length,List.append_nil],?_⟩
 rw [List.set_append_right _ _ (by simp)]
 simp
def lbV (lb:List Int) (n:Int):Int:=if 0≤n∧n<lb.length then lb.getD ((lb.length:Int) - 1 - n).toNat default else 0
def lbB (lb:List Int) (n:Int):Bool:=decide (0≤n∧n<lb.length)
theorem zvH (Γ:Ctx) (l:List Int) (aw dd:Bool) (mo:Int) (bd:Bool) (n:Int) (g:Gd Γ l.length) :
  zay (CC Γ l aw dd mo bd) n=some (lbV Γ.lb n,CC Γ l aw dd mo (bd||!lbB Γ.lb n)):=by
 have hl:=g.lb
 unfold zay
 have e1:(CC Γ l aw dd mo bd).labels=Γ.lb:=rfl
 rw [e1]
 by_cases h:0≤n∧n<Γ.lb.length
 ·rw [if_neg (by simp; omega),wI_small (x:=(Γ.lb.length:Int) - 1) (by omega) (by omega),wI_small (by omega) (by omega),zax (by omega)]
  unfold lbV lbB
  rw [if_pos h,decide_eq_true h]
  cases bd <;> rfl
 ·rw [if_pos (by simp; omega)]
  unfold lbV lbB
  rw [if_neg h,decide_eq_false h]
  cases bd <;> rfl
def rV (l:List Int) (k:Int):Int:=if k=0 then 0 else match l.getLast? with | none => k | some x => if x=255 then k else x
def rB (l:List Int) (aw ok:Bool) (k:Int):Bool:=if k=0 then ok else match l.getLast? with | none => ok&&aw | some x => if x=255 then ok else if (k != 255&&x != k)=true then false else ok
theorem zts (l:List Int) (u:Int) (aw dd:Bool) (mo:Int) (ok:Bool) (k:Int) (h:l.length<1000000000000) :
  zad (St8.mk l u aw dd mo ok) k=some (St8.mk (tL l k) u aw dd mo (rB l aw ok k),rV l k):=by
 unfold zad
 by_cases hk:k=0
 ·rw [if_pos (by simpa using hk)]
  simp [rV,tL,rB,hk]
 rw [if_neg (by simpa using hk)]
 rcases List.eq_nil_or_concat l with rfl | ⟨l,x,rfl⟩
 ·rw [if_pos (by simp)]
  simp only [rV,tL,rB,if_neg hk,List.getLast?_nil,List.dropLast_nil]
  cases ok <;> rfl
 ·simp only [List.concat_eq_append] at h ⊢
  simp only [List.length_append,List.length_cons,List.length_nil] at h
  have e:(((l++[x]).length:Nat):Int)=((l.length+1:Nat):Int):=by simp
  have e2:(l++[x]).getD (l.length:Int).toNat default=x:=by
   rw [Int.toNat_natCast,List.getD_eq_getElem?_getD]; simp
  have e3:List.take (l.length:Int).toNat (l++[x])=l:=by
   rw [Int.toNat_natCast]; simp
  show (if (((l++[x]).length:Int)==(0:Int))=true then _ else gd (0≤(wI (((l++[x]).length:Int) - 1))∧(wI (((l++[x]).length:Int) - 1))<((l++[x]).length:Int)) _)=_
  rw [e,wB _ (by omega),if_neg (by simp; omega),zax (by omega),zax (by omega),e2,e3]
  simp only [rV,tL,rB,if_neg hk,List.getLast?_append,List.getLast?_singleton,List.dropLast_concat,Option.some_or]
  by_cases hx:x=255
  ·rw [if_pos (by simpa using hx),if_pos hx,if_pos hx]
  ·rw [if_neg (by simpa using hx),if_neg hx,if_neg hx]
   cases (k != 255&&x != k) <;> rfl
theorem zxZ (l:List Int) (u:Nat) (aw dd:Bool) (mo:Int) (ok:Bool) (k:Int) (h:u+l.length<1000000000000) :
  zaP (St8.mk l u aw dd mo ok) k=some (if k=0 then St8.mk l u aw dd mo ok else St8.mk (l++[k]) u aw dd (if (!aw&&!dd)=true then mxI mo ((u+l.length+1:Nat):Int) else mo) ok):=by
 unfold zaP
 by_cases hk:k=0
 ·rw [if_pos (by simpa using hk),if_pos hk]
 have e:wI ((u:Int)+((l++[k]).length:Int))=((u+l.length+1:Nat):Int):=by
  rw [wI_small (by simp; omega) (by simp; omega)]; simp; omega
 rw [if_neg (by simpa using hk),if_neg hk,zax (by show l.length * 1≤_; omega),zax (by show (l.length+1) * 1≤_; omega)]
 show ((if (!aw&&!dd)=true then some (mxI mo (wI ((u:Int)+((l++[k]).length:Int)))) else some mo).bind fun j3 => some (St8.mk (l++[k]) u aw dd j3 ok))=_
 rw [e]
 cases (!aw&&!dd) <;> rfl
def Kd (x:Int):Prop:=x=126∨x=127∨x=255
def fk (x:Int):Int:=if x=255 then 1 else x
theorem fk0 {x:Int} (h:x=0∨Kd x):fk x=0↔x=0:=by
 rcases h with rfl | rfl | rfl | rfl <;> decide
def BadV (Γ:Ctx) (N:Nat) (c:Checker):Prop:=∃ l aw dd mo,l.length≤N∧c=CC Γ l aw dd mo true
def BadR (N:Nat) (s:St8):Prop:=s.ok=false∧s.l.length≤N
def OkS (Γ:Ctx) (N:Nat) (c:Checker) (s:St8):Prop:=
 ∃ l aw dd mo,(∀ x∈l,Kd x)∧l.length≤N∧c=CC Γ (l.map fk) aw dd mo false∧s=St8.mk l Γ.un.length aw dd mo true
def Sim (Γ:Ctx) (N:Nat) (c:Checker) (s:St8):Prop:=OkS Γ N c s∨(BadV Γ N c∧BadR N s)
theorem BadV.mono {Γ:Ctx} {N M:Nat} {c:Checker} (h:BadV Γ N c) (hm:N≤M):BadV Γ M c:=by
 obtain ⟨l,aw,dd,mo,h1,h2⟩:=h; exact ⟨l,aw,dd,mo,by omega,h2⟩
theorem BadR.mono {N M:Nat} {s:St8} (h:BadR N s) (hm:N≤M):BadR M s:=⟨h.1,by have:=h.2; omega⟩
theorem Sim.mono {Γ:Ctx} {N M:Nat} {c:Checker} {s:St8} (h:Sim Γ N c s) (hm:N≤M):Sim Γ M c s:=by
 rcases h with ⟨l,aw,dd,mo,h1,h2,h3⟩ | ⟨h1,h2⟩
 ·exact .inl ⟨l,aw,dd,mo,h1,by omega,h3⟩
 ·exact .inr ⟨h1.mono hm,h2.mono hm⟩
theorem Sim.bad {Γ:Ctx} {N:Nat} {c:Checker} {s:St8} (h:Sim Γ N c s):c.bad = !s.ok:=by
 rcases h with ⟨l,aw,dd,mo,h1,h2,rfl,rfl⟩ | ⟨⟨l,aw,dd,mo,h1,rfl⟩,h2,h3⟩
 ·rfl
 ·rw [h2]; rfl
def Vk (s:St8) (v v':Int):Prop:=s.ok=true→v=fk v'∧(v'=0∨Kd v')
theorem tL_len (l:List Int) (k:Int):(tL l k).length≤l.length:=by
 unfold tL; split
 ·exact Nat.le_refl _
 ·rw [List.length_dropLast]; omega
theorem lastK {l:List Int} (h:∀ x∈l,Kd x) {x:Int} (hx:l.getLast? = some x):Kd x:=h x (List.mem_of_getLast? hx)
theorem takeB {Γ:Ctx} {N:Nat} {c:Checker} (g:Gd Γ N) (h:BadV Γ N c) (k:Int):∃ v c',zac c k=some (v,c')∧BadV Γ N c':=by
 obtain ⟨l,aw,dd,mo,h1,rfl⟩:=h
 have ht:=tL_len l k
 refine ⟨_,_,zto Γ l aw dd mo true k (g.mono h1),tL l k,aw,dd,mo,Nat.le_trans ht h1,?_⟩
 have:tB l aw true k=true:=by
  unfold tB; split
  ·rfl
  ·split <;> rfl
 rw [this]
theorem rtakeB {N:Nat} {s:St8} (hN:N<1000000000000) (h:BadR N s) (k:Int):∃ v s',zad s k=some (s',v)∧BadR N s':=by
 obtain ⟨l,u,aw,dd,mo,ok⟩:=s
 obtain ⟨h1,h2⟩:=h
 obtain rfl:ok=false:=h1
 have ht:=tL_len l k
 have h2':l.length≤N:=h2
 refine ⟨_,_,zts l u aw dd mo false k (by omega),?_,Nat.le_trans ht h2⟩
 show rB l aw false k=false
 unfold rB; split
 ·rfl
 ·split
  ·rfl
  ·split
   ·rfl
   ·split <;> rfl
theorem zbY {Γ:Ctx} {N:Nat} {c:Checker} {s:St8} (g:Gd Γ N) (h:Sim Γ N c s) {k k':Int} (hk:Vk s k k') :
  ∃ v c' v' s',zac c k=some (v,c')∧zad s k'=some (s',v')∧Sim Γ N c' s'∧Vk s' v v':=by
 have hN:N<1000000000000:=by have:=g.un; omega
 rcases h with ⟨l,aw,dd,mo,h1,h2,rfl,rfl⟩ | ⟨h1,h2⟩
 ·obtain ⟨rfl,hk'⟩:=hk rfl
  refine ⟨_,_,_,_,zto Γ (l.map fk) aw dd mo false (fk k') (g.mono (by simpa using h2)),zts l _ aw dd mo true k' (by omega),?_⟩
  have e1:tL (l.map fk) (fk k')=(tL l k').map fk:=by
   unfold tL
   by_cases h0:k'=0
   ·rw [if_pos h0,if_pos ((fk0 hk').2 h0)]
   ·rw [if_neg h0,if_neg (fun h => h0 ((fk0 hk').1 h)),List.map_dropLast]
  have hs:∀ x∈tL l k',Kd x:=by
   unfold tL; split
   ·exact h1
   ·exact fun x hx => h1 x (List.dropLast_subset l hx)
  have e2:tB (l.map fk) aw false (fk k') = !rB l aw true k':=by
   unfold tB rB
   by_cases h0:k'=0
   ·rw [if_pos h0,if_pos ((fk0 hk').2 h0)]; rfl
   ·rw [if_neg h0,if_neg (fun h => h0 ((fk0 hk').1 h)),List.getLast?_map]
    cases hl:l.getLast? with
    | none => cases aw <;> rfl
    | some x => 
     have kx:=lastK h1 hl
     rcases hk' with h | h
     ·exact absurd h h0
     rcases kx with rfl | rfl | rfl <;> rcases h with rfl | rfl | rfl <;> rfl
  have e3:tV (l.map fk) (fk k')=fk (rV l k')∧(rV l k'=0∨Kd (rV l k')):=by
   unfold tV rV
   by_cases h0:k'=0
   ·rw [if_pos h0,if_pos ((fk0 hk').2 h0),h0]; exact ⟨rfl,.inl rfl⟩
   ·rw [if_neg h0,if_neg (fun h => h0 ((fk0 hk').1 h)),List.getLast?_map]
    cases hl:l.getLast? with
    | none => exact ⟨rfl,hk'⟩
    | some x => 
     have kx:=lastK h1 hl
     rcases hk' with h | h
     ·exact absurd h h0
     rcases kx with rfl | rfl | rfl
     ·exact ⟨rfl,.inr (.inl rfl)⟩
     ·exact ⟨rfl,.inr (.inr (.inl rfl))⟩
     ·exact ⟨rfl,.inr h⟩
  rw [e1,e2]
  have ht:=tL_len l k'
  refine ⟨?_,fun _ => e3⟩
  cases hr:rB l aw true k' with
  | true => exact .inl ⟨tL l k',aw,dd,mo,hs,by omega,rfl,rfl⟩
  | false => exact .inr ⟨⟨_,aw,dd,mo,by rw [List.length_map]; omega,rfl⟩,rfl,by show (tL l k').length≤N; omega⟩
 ·obtain ⟨v,c',e,hb⟩:=takeB g h1 k
  obtain ⟨v',s',e',hb'⟩:=rtakeB hN h2 k'
  exact ⟨v,c',v',s',e,e',.inr ⟨hb,hb'⟩,fun h => by rw [hb'.1] at h; cases h⟩
theorem layB {Γ:Ctx} {N:Nat} {c:Checker} (g:Gd Γ N) (h:BadV Γ N c) (k:Int):∃ c',zag c k=some c'∧BadV Γ (N+1) c':=by
 obtain ⟨l,aw,dd,mo,h1,rfl⟩:=h
 refine ⟨_,zxS Γ l aw dd mo true k (g.mono h1),?_⟩
 split
 ·exact ⟨_,_,_,_,Nat.le_succ_of_le h1,rfl⟩
 ·exact ⟨_,_,_,_,by simp only [List.length_append,List.length_cons,List.length_nil]; omega,rfl⟩
theorem rlayB {N:Nat} {s:St8} (hN:N<1000000000000) (h:BadR N s) (k:Int):∃ s',zaP s k=some s'∧BadR (N+1) s':=by
 obtain ⟨l,u,aw,dd,mo,ok⟩:=s
 obtain ⟨h1,h2⟩:=h
 obtain rfl:ok=false:=h1
 have h2':l.length≤N:=h2
 unfold zaP
 split
 ·exact ⟨_,rfl,rfl,Nat.le_succ_of_le h2⟩
 ·rw [zax (by show l.length * 1≤_; omega),zax (by show (l.length+1) * 1≤_; omega)]
  split
  ·exact ⟨_,rfl,rfl,by show (l++[k]).length≤_; rw [List.length_append]; simp; omega⟩
  ·exact ⟨_,rfl,rfl,by show (l++[k]).length≤_; rw [List.length_append]; simp; omega⟩
theorem zmf {Γ:Ctx} {N:Nat} {c:Checker} {s:St8} (g:Gd Γ N) (h:Sim Γ N c s) {k k':Int} (hk:Vk s k k') :
  ∃ c' s',zag c k=some c'∧zaP s k'=some s'∧Sim Γ (N+1) c' s':=by
 have hN:N<1000000000000:=by have:=g.un; omega
 rcases h with ⟨l,aw,dd,mo,h1,h2,rfl,rfl⟩ | ⟨h1,h2⟩
 ·obtain ⟨rfl,hk'⟩:=hk rfl
  refine ⟨_,_,zxS Γ (l.map fk) aw dd mo false (fk k') (g.mono (by simpa using h2)),zxZ l Γ.un.length aw dd mo true k' (by have:=g.un; omega),?_⟩
  by_cases h0:k'=0
  ·rw [if_pos h0,if_pos ((fk0 hk').2 h0)]
   exact .inl ⟨l,aw,dd,mo,h1,by omega,rfl,rfl⟩
  ·rw [if_neg h0,if_neg (fun h => h0 ((fk0 hk').1 h))]
   refine .inl ⟨l++[k'],aw,dd,_,fun x hx => ?_,by simp; omega,?_,rfl⟩
   ·rcases List.mem_append.1 hx with hx | hx
    ·exact h1 x hx
    ·obtain rfl:x=k':=by simpa using hx
     rcases hk' with h | h
     ·exact absurd h h0
     ·exact h
   ·rw [List.map_append,List.length_map]; rfl
 ·obtain ⟨c',e,hb⟩:=layB g h1 k
  obtain ⟨s',e',hb'⟩:=rlayB hN h2 k'
  exact ⟨c',s',e,e',.inr ⟨hb,hb'⟩⟩
theorem leaveB {Γ:Ctx} {N:Nat} {c:Checker} (g:Gd Γ N) (h:BadV Γ N c):∃ c',zar c=some c'∧BadV Γ N c':=by
 obtain ⟨l,aw,dd,mo,h1,rfl⟩:=h
 exact ⟨_,zvG Γ l aw dd mo true (g.mono h1),_,_,_,_,Nat.zero_le _,rfl⟩
theorem zmm {Γ:Ctx} {N:Nat} {c:Checker} {s:St8} (g:Gd Γ N) (h:Sim Γ N c s) :
  ∃ c' s',zar c=some c'∧zbU s=some s'∧Sim Γ N c' s':=by
 rcases h with ⟨l,aw,dd,mo,h1,h2,rfl,rfl⟩ | ⟨h1,h2⟩
 ·exact ⟨_,_,zvG Γ (l.map fk) aw dd mo false (g.mono (by simpa using h2)),rfl,.inl ⟨[],true,dd,mo,(fun x hx => by cases hx),Nat.zero_le _,rfl,rfl⟩⟩
 ·obtain ⟨c',e,hb⟩:=leaveB g h1
  exact ⟨c',_,e,rfl,.inr ⟨hb,h2.1,Nat.zero_le _⟩⟩
def setB (c:Checker) (b:Bool):Checker:=Checker.mk c.m c.t c.locals c.stack c.frames c.labels c.most (c.bad||b)
def setO (s:St8) (b:Bool):St8:=St8.mk s.l s.under s.away s.dead s.most (s.ok&&b)
theorem zkg {Γ:Ctx} {N:Nat} {c:Checker} {s:St8} (h:Sim Γ N c s) (b:Bool):Sim Γ N (setB c b) (setO s (!b)):=by
 rcases h with ⟨l,aw,dd,mo,h1,h2,rfl,rfl⟩ | ⟨⟨l,aw,dd,mo,h1,rfl⟩,h2,h3⟩
 ·cases b with
  | false => exact .inl ⟨l,aw,dd,mo,h1,h2,rfl,rfl⟩
  | true => exact .inr ⟨⟨l.map fk,aw,dd,mo,by simpa using h2,rfl⟩,rfl,h2⟩
 ·refine .inr ⟨⟨l,aw,dd,mo,h1,rfl⟩,?_,h3⟩
  show (s.ok&&!b)=false
  rw [h2]; rfl
theorem askB {Γ:Ctx} {N:Nat} {c:Checker} (h:BadV Γ N c) (b:Bool):BadV Γ N (setB c b):=by
 obtain ⟨l,aw,dd,mo,h1,rfl⟩:=h
 exact ⟨l,aw,dd,mo,h1,rfl⟩
theorem Sim.toBad {Γ:Ctx} {N:Nat} {c:Checker} {s:St8} (h:Sim Γ N c s):BadV Γ N (setB c true)∧BadR N (setO s false):=by
 rcases zkg h true with ⟨l,aw,dd,mo,h1,h2,h3,h4⟩ | h
 ·have:=congrArg St8.ok h4
  simp [setO] at this
 ·exact h
theorem zmn {Γ:Ctx} {N:Nat} {c:Checker} {s:St8} (g:Gd Γ N) (h:Sim Γ N c s) (hl:∀ x∈Γ.lb,x=0∨x=126∨x=127) (n:Int) :
  zay c n=some (lbV Γ.lb n,setB c (!lbB Γ.lb n))∧zbS Γ.env n=some (lbV Γ.lb n,lbB Γ.lb n)∧Vk s (lbV Γ.lb n) (lbV Γ.lb n):=by
 refine ⟨?_,?_,fun _ => ?_⟩
 ·rcases h with ⟨l,aw,dd,mo,h1,h2,rfl,rfl⟩ | ⟨⟨l,aw,dd,mo,h1,rfl⟩,h2,h3⟩
  ·exact zvH Γ _ aw dd mo false n (g.mono (by simpa using h2))
  ·exact zvH Γ _ aw dd mo true n (g.mono (by simpa using h1))
 ·have hl:=g.lb
  unfold zbS
  show (if ((decide (n<(0:Int)))||(decide (n≥(Γ.lb.length:Int))))=true then some (0,false) else gd (0≤(wI ((wI ((Γ.lb.length:Int) - 1)) - n))∧(wI ((wI ((Γ.lb.length:Int) - 1)) - n))<(Γ.lb.length:Int)) (some (Γ.lb.getD ((wI ((wI ((Γ.lb.length:Int) - 1)) - n)).toNat) default,true)))=_
  by_cases h:0≤n∧n<Γ.lb.length
  ·rw [if_neg (by simp; omega),wI_small (x:=(Γ.lb.length:Int) - 1) (by omega) (by omega),wI_small (by omega) (by omega),zax (by omega)]
   unfold lbV lbB
   rw [if_pos h,decide_eq_true h]
  ·rw [if_pos (by simp; omega)]
   unfold lbV lbB
   rw [if_neg h,decide_eq_false h]
 ·have:lbV Γ.lb n=0∨lbV Γ.lb n=126∨lbV Γ.lb n=127:=by
   unfold lbV
   split
   ·rename_i h
    apply hl
    rw [List.getD_eq_getElem?_getD,List.getElem?_eq_getElem (by omega)]
    exact List.getElem_mem _
   ·exact .inl rfl
  rcases this with h | h | h <;> rw [h]
  ·exact ⟨rfl,.inl rfl⟩
  ·exact ⟨rfl,.inr (.inl rfl)⟩
  ·exact ⟨rfl,.inr (.inr (.inl rfl))⟩
def K2 (x:Int):Prop:=x=126∨x=127
def K3 (x:Int):Prop:=x=0∨x=126∨x=127
theorem Vk.of3 {s:St8} {x:Int} (h:K3 x):Vk s x x:=fun _ => by
 rcases h with rfl | rfl | rfl
 ·exact ⟨rfl,.inl rfl⟩
 ·exact ⟨rfl,.inr (.inl rfl)⟩
 ·exact ⟨rfl,.inr (.inr (.inl rfl))⟩
theorem Vk.of2 {s:St8} {x:Int} (h:K2 x):Vk s x x:=Vk.of3 (.inr h)
theorem Vk.any {s:St8}:Vk s 1 255:=fun _ => ⟨rfl,.inr (.inr (.inr rfl))⟩
theorem okT_CC {Γ:Ctx} {l:List Int} {aw dd:Bool} {mo:Int} {bd:Bool} (g:Gd Γ l.length):okT (CC Γ l aw dd mo bd):=by
 have hf:=g.fr; have hu:=g.un
 have e1:(CC Γ l aw dd mo bd).frames.length=Γ.fr.length+1:=by simp [CC]
 have e2:(CC Γ l aw dd mo bd).stack.length=Γ.un.length+l.length:=by simp [CC]
 have e3:(CC Γ l aw dd mo bd).frames.getD (Γ.fr.length+1 - 1) default=Frame.mk (Γ.un.length:Int) aw dd:=by
  have:=CC_top Γ l aw dd mo bd
  rw [Int.toNat_natCast] at this
  exact this
 unfold okT
 rw [e1,e2,e3]
 refine ⟨by omega,by omega,by omega,?_,?_⟩
 ·show (0:Int)≤(Γ.un.length:Int); omega
 ·show ((Γ.un.length:Nat):Int)≤_; omega
theorem BadV.ok {Γ:Ctx} {N:Nat} {c:Checker} (g:Gd Γ N) (h:BadV Γ N c):okT c:=by
 obtain ⟨l,aw,dd,mo,h1,rfl⟩:=h
 exact okT_CC (g.mono h1)
theorem Sim.okT {Γ:Ctx} {N:Nat} {c:Checker} {s:St8} (g:Gd Γ N) (h:Sim Γ N c s):okT c:=by
 rcases h with ⟨l,aw,dd,mo,h1,h2,rfl,rfl⟩ | ⟨h,_⟩
 ·exact okT_CC (g.mono (by simpa using h2))
 ·exact h.ok g
theorem takesB {Γ:Ctx} {N:Nat} (g:Gd Γ N) (ps:List Int):∀ {c:Checker},BadV Γ N c→BadV Γ N (ps.foldl takeT c):=by
 induction ps with
 | nil => intro c h; exact h
 | cons p ps ih => 
  intro c h
  obtain ⟨v,c',e,hb⟩:=takeB g h p
  have:takeT c p=c':=by unfold takeT; rw [e]; rfl
  rw [List.foldl_cons,this]
  exact ih hb
theorem callB {Γ:Ctx} {N:Nat} (g:Gd Γ N) {c:Checker} (h:BadV Γ N c) (t:Typ) (ht:t.params.length<4611686018427387904):∃ c',zaw c t=some c'∧BadV Γ (N+1) c':=by
 unfold zaw zch
 rw [zax ⟨h.ok g,ht⟩,Option.bind_some]
 obtain ⟨c',e,hb⟩:=layB g (takesB g t.params.reverse h) t.result
 rw [e]
 exact ⟨c',rfl,hb⟩
theorem zuW {Γ:Ctx} {N:Nat} (g:Gd Γ N) (t:Typ) (ht:∀ p∈t.params,K2 p) (hs:t.params.length<1000000000):∀ (i k:Nat) (c:Checker) (s:St8),i≤t.params.length→i<k→Sim Γ N c s →
  ∃ s',zeG k t s ((i:Int) - 1)=some s'∧Sim Γ N ((t.params.take i).reverse.foldl takeT c) s':=by
 intro i
 induction i with
 | zero => 
  intro k c s _ hk h
  cases k with
  | zero => omega
  | succ k => exact ⟨s,rfl,h⟩
 | succ i ih => 
  intro k c s hi hk h
  cases k with
  | zero => omega
  | succ k => 
   simp only [zeG]
   have e0:(((i+1:Nat):Int) - 1)=(i:Int):=by omega
   have hm:K2 (t.params.getD (i:Int).toNat default):=ht _ (getD_mem t.params i (by omega))
   rw [e0,if_pos (by simp),zax (by omega)]
   obtain ⟨v,c',v',s',e1,e2,h',_⟩:=zbY g h (Vk.of2 hm)
   rw [e2,Option.bind_some]
   obtain ⟨s'',e3,h''⟩:=ih k c' s' (by omega) (by omega) h'
   rw [wI_small (by omega) (by omega)]
   refine ⟨s'',e3,?_⟩
   have e4:takeT c (t.params.getD (i:Int).toNat default)=c':=by unfold takeT; rw [e1]; rfl
   have e5:(t.params.take (i+1)).reverse=t.params.getD (i:Int).toNat default :: (t.params.take i).reverse:=by
    rw [← takeS t.params i (by omega),List.reverse_append]; rfl
   rw [e5,List.foldl_cons,e4]
   exact h''
def TOk (P:Nat) (t:Typ):Prop:=(∀ p∈t.params,K2 p)∧K3 t.result∧t.params.length<P
theorem ztp {Γ:Ctx} {N P K:Nat} {c:Checker} {s:St8} (g:Gd Γ N) (h:Sim Γ N c s) {t:Typ} (ht:TOk P t) (hP:P<1000000000) (hK:P<K) :
  ∃ c' s',zaw c t=some c'∧zcy K s t=some s'∧Sim Γ (N+1) c' s':=by
 obtain ⟨h1,h2,h3⟩:=ht
 unfold zaw zch zcy
 rw [zax ⟨h.okT g,by omega⟩,Option.bind_some,wI_small (by omega) (by omega)]
 obtain ⟨s',e,h'⟩:=zuW g t h1 (by omega) t.params.length K c s (Nat.le_refl _) (by omega) h
 rw [e,Option.bind_some]
 rw [List.take_length] at h'
 obtain ⟨c2,s2,e1,e2,h''⟩:=zmf g h' (Vk.of3 h2)
 rw [e1,e2]
 exact ⟨c2,s2,rfl,rfl,h''⟩
theorem zxy {k:Nat} {c:Checker} (h:c.bad=true) (L:List Instr):zal (k+2) c L=some c:=by
 simp only [zal,lpN]
 split
 ·rename_i hl
  have hl':=of_decide_eq_true hl
  rw [zax ⟨Int.le_refl 0,hl'⟩]
 ·rfl
theorem zwH {k:Nat} {e:Env8} {s:St8} (h:s.ok=false) (L:List Instr):zaX (k+2) e s L=some s:=by
 simp only [zaX,lpN]
 rw [h,Bool.and_false,if_neg (by decide)]
 rfl
def Ctx.sub (Γ:Ctx) (l:List Int) (aw dd:Bool) (lab:Int):Ctx:=⟨Γ.m,Γ.t,Γ.ls,Γ.un++l,Γ.fr++[Frame.mk (Γ.un.length:Int) aw dd],Γ.lb++[lab]⟩
def popC (x6:Checker) (p2:Int):Option Checker:=
 (zac x6 p2).bind fun x8 => gd (0≤(wI ((x8.2.frames.length:Int) - 1))∧(wI ((x8.2.frames.length:Int) - 1))<(x8.2.frames.length:Int)) ((if x8.2.bad=true then some (Checker.mk x8.2.m x8.2.t x8.2.locals x8.2.stack x8.2.frames x8.2.labels x8.2.most true) else some (Checker.mk x8.2.m x8.2.t x8.2.locals x8.2.stack x8.2.frames x8.2.labels x8.2.most ((x8.2.stack.length:Int) != ((x8.2.frames.getD ((wI ((x8.2.frames.length:Int) - 1)).toNat) default).height)))).bind (fun j11 => gd (0≤(0:Int)∧0≤(mnI ((x8.2.frames.getD ((wI ((x8.2.frames.length:Int) - 1)).toNat) default).height) (j11.stack.length:Int))∧(mnI ((x8.2.frames.getD ((wI ((x8.2.frames.length:Int) - 1)).toNat) default).height) (j11.stack.length:Int))≤(j11.stack.length:Int)) (gd (0≤(0:Int)∧0≤(wI ((j11.frames.length:Int) - 1))∧(wI ((j11.frames.length:Int) - 1))≤(j11.frames.length:Int)) (gd (0≤(0:Int)∧0≤(wI ((j11.labels.length:Int) - 1))∧(wI ((j11.labels.length:Int) - 1))≤(j11.labels.length:Int)) (some (Checker.mk j11.m j11.t j11.locals (List.take ((mnI ((x8.2.frames.getD ((wI ((x8.2.frames.length:Int) - 1)).toNat) default).height) (j11.stack.length:Int)).toNat) j11.stack) (List.take ((wI ((j11.frames.length:Int) - 1)).toNat) j11.frames) (List.take ((wI ((j11.labels.length:Int) - 1)).toNat) j11.labels) j11.most j11.bad))))))
theorem zvJ {Γ:Ctx} {l:List Int} {aw dd:Bool} {mo:Int} {bd:Bool} (g:Gd Γ l.length) (k:Nat) (L:List Instr) (res lab:Int) :
  zaj (k+1) (CC Γ l aw dd mo bd) L res lab=(zal k (CC (Γ.sub l aw dd lab) [] false (aw||dd) mo bd) L).bind fun x6 => popC x6 res:=by
 have hf:=g.fr; have hu:=g.un; have hb:=g.lb
 simp only [zaj]
 rw [CC_fl,wB _ (by omega),zax (by omega),CC_top]
 have e0:((CC Γ l aw dd mo bd).frames.length+1) * 16≤140737488355328:=by
  have:(CC Γ l aw dd mo bd).frames.length=Γ.fr.length+1:=by simp [CC]
  omega
 have e1:(if (Frame.mk (Γ.un.length:Int) aw dd).away=true then gd (((CC Γ l aw dd mo bd).frames.length+1) * 16≤140737488355328) (some (Checker.mk Γ.m Γ.t Γ.ls (CC Γ l aw dd mo bd).stack ((CC Γ l aw dd mo bd).frames++([(Frame.mk ((CC Γ l aw dd mo bd).stack.length:Int) false true)]:List Frame)) Γ.lb mo bd)) else gd (((CC Γ l aw dd mo bd).frames.length+1) * 16≤140737488355328) (some (Checker.mk Γ.m Γ.t Γ.ls (CC Γ l aw dd mo bd).stack ((CC Γ l aw dd mo bd).frames++([(Frame.mk ((CC Γ l aw dd mo bd).stack.length:Int) false (Frame.mk (Γ.un.length:Int) aw dd).dead)]:List Frame)) Γ.lb mo bd)))=some (Checker.mk Γ.m Γ.t Γ.ls (CC Γ l aw dd mo bd).stack ((CC Γ l aw dd mo bd).frames++([(Frame.mk ((CC Γ l aw dd mo bd).stack.length:Int) false (aw||dd))]:List Frame)) Γ.lb mo bd):=by
  rw [zax e0,zax e0]
  cases aw <;> rfl
 refine (congrArg (fun o => Option.bind o _) e1).trans ?_
 rw [Option.bind_some,zax (by show (Γ.lb.length+1) * 1≤_; omega)]
 have e2:CC (Γ.sub l aw dd lab) [] false (aw||dd) mo bd=Checker.mk Γ.m Γ.t Γ.ls (CC Γ l aw dd mo bd).stack ((CC Γ l aw dd mo bd).frames++([(Frame.mk ((CC Γ l aw dd mo bd).stack.length:Int) false (aw||dd))]:List Frame)) (Γ.lb++[lab]) mo bd:=by
  simp [CC,Ctx.sub]
 rw [e2]
 rfl
theorem zwS {Γ:Ctx} {l:List Int} {aw dd:Bool} {lab:Int} {l2:List Int} {aw2 dd2:Bool} {mo2:Int} {bd2:Bool} {N:Nat} (g:Gd Γ l.length) (g2:Gd (Γ.sub l aw dd lab) l2.length) (res:Int) :
  popC (CC (Γ.sub l aw dd lab) l2 aw2 dd2 mo2 bd2) res=some (CC Γ l aw dd mo2 (tB l2 aw2 bd2 res||decide ((tL l2 res).length≠0))):=by
 have hf:=g.fr; have hu:=g.un; have hb:=g.lb
 have hf2:=g2.fr; have hu2:=g2.un; have hb2:=g2.lb
 have ht:=tL_len l2 res
 unfold popC
 rw [zto _ _ _ _ _ _ _ g2,Option.bind_some]
 show gd (0≤(wI (((CC (Γ.sub l aw dd lab) (tL l2 res) aw2 dd2 mo2 (tB l2 aw2 bd2 res)).frames.length:Int) - 1))∧(wI (((CC (Γ.sub l aw dd lab) (tL l2 res) aw2 dd2 mo2 (tB l2 aw2 bd2 res)).frames.length:Int) - 1))<((CC (Γ.sub l aw dd lab) (tL l2 res) aw2 dd2 mo2 (tB l2 aw2 bd2 res)).frames.length:Int)) _=_
 rw [CC_fl,wB _ (by omega),zax (by omega),CC_top]
 have hs:(CC (Γ.sub l aw dd lab) (tL l2 res) aw2 dd2 mo2 (tB l2 aw2 bd2 res)).stack.length=(Γ.sub l aw dd lab).un.length+(tL l2 res).length:=by simp [CC]
 rw [hs]
 have e1:((((Γ.sub l aw dd lab).un.length+(tL l2 res).length:Nat):Int) != (Frame.mk ((Γ.sub l aw dd lab).un.length:Int) aw2 dd2).height)=decide ((tL l2 res).length≠0):=by
  show ((((Γ.sub l aw dd lab).un.length+(tL l2 res).length:Nat):Int) != ((Γ.sub l aw dd lab).un.length:Int))=_
  by_cases h:(tL l2 res).length=0
  ·rw [h]; simp
  ·rw [decide_eq_true h]; simp; omega
 rw [e1]
 have e2:(if tB l2 aw2 bd2 res=true then some (Checker.mk Γ.m Γ.t Γ.ls (CC (Γ.sub l aw dd lab) (tL l2 res) aw2 dd2 mo2 (tB l2 aw2 bd2 res)).stack (CC (Γ.sub l aw dd lab) (tL l2 res) aw2 dd2 mo2 (tB l2 aw2 bd2 res)).frames (Γ.lb++[lab]) mo2 true) else some (Checker.mk Γ.m Γ.t Γ.ls (CC (Γ.sub l aw dd lab) (tL l2 res) aw2 dd2 mo2 (tB l2 aw2 bd2 res)).stack (CC (Γ.sub l aw dd lab) (tL l2 res) aw2 dd2 mo2 (tB l2 aw2 bd2 res)).frames (Γ.lb++[lab]) mo2 (decide ((tL l2 res).length≠0))))=some (CC (Γ.sub l aw dd lab) (tL l2 res) aw2 dd2 mo2 (tB l2 aw2 bd2 res||decide ((tL l2 res).length≠0))):=by
  cases tB l2 aw2 bd2 res <;> rfl
 refine (congrArg (fun o => Option.bind o _) e2).trans ?_
 have hs':(CC (Γ.sub l aw dd lab) (tL l2 res) aw2 dd2 mo2 (tB l2 aw2 bd2 res||decide ((tL l2 res).length≠0))).stack.length=(Γ.sub l aw dd lab).un.length+(tL l2 res).length:=by simp [CC]
 have em:mnI (Frame.mk ((Γ.sub l aw dd lab).un.length:Int) aw2 dd2).height (((Γ.sub l aw dd lab).un.length+(tL l2 res).length:Nat):Int)=((Γ.sub l aw dd lab).un.length:Int):=by
  show mnI ((Γ.sub l aw dd lab).un.length:Int) _=_
  unfold mnI; rw [if_neg (by omega)]
 have el:(CC (Γ.sub l aw dd lab) (tL l2 res) aw2 dd2 mo2 (tB l2 aw2 bd2 res||decide ((tL l2 res).length≠0))).labels=Γ.lb++[lab]:=rfl
 rw [Option.bind_some,hs',em,zax (by omega),CC_fl,wB _ (by omega),zax (by omega),el]
 have ell:(((Γ.lb++[lab]).length:Nat):Int)=((Γ.lb.length+1:Nat):Int):=by simp
 rw [ell,wB _ (by omega),zax (by omega)]
 simp only [CC,Ctx.sub,Int.toNat_natCast,Option.some.injEq,Checker.mk.injEq,true_and,and_true]
 refine ⟨?_,?_,?_⟩
 ·rw [List.take_append_of_le_length (Nat.le_refl _),List.take_length]
 ·rw [List.take_append_of_le_length (Nat.le_refl _),List.take_length]
 ·rw [List.take_append_of_le_length (Nat.le_refl _),List.take_length]
theorem Gd.sub {Γ:Ctx} {N:Nat} {l:List Int} {M:Nat} {aw dd:Bool} {lab:Int} (g:Gd Γ (l.length+M)) (h1:Γ.fr.length+1<1000000000) (h2:Γ.lb.length+1<1000000000):Gd (Γ.sub l aw dd lab) M:=
 ⟨by have:=g.un; simp only [Ctx.sub,List.length_append]; omega,by simp only [Ctx.sub,List.length_append,List.length_cons,List.length_nil]; omega,by simp only [Ctx.sub,List.length_append,List.length_cons,List.length_nil]; omega⟩
theorem innerB {Γ:Ctx} {N k:Nat} (g:Gd Γ N) (hf:Γ.fr.length+1<1000000000) (hl:Γ.lb.length+1<1000000000) {c:Checker} (h:BadV Γ N c) (L:List Instr) (res lab:Int):∃ c',zaj (k+3) c L res lab=some c'∧BadV Γ N c':=by
 obtain ⟨l,aw,dd,mo,h1,rfl⟩:=h
 have g1:Gd Γ (l.length+0):=g.mono (by omega)
 rw [zvJ (g.mono h1),zxy (by rfl),Option.bind_some,zwS (N:=0) (g.mono h1) (g1.sub (N:=0) hf hl)]
 refine ⟨_,rfl,l,aw,dd,mo,h1,?_⟩
 have:tB [] false true res=true:=by unfold tB; split <;> rfl
 rw [this,Bool.true_or]
theorem zuo {Γ:Ctx} {l:List Int} {u:Int} {aw dd:Bool} {mo:Int} {ok:Bool} (hb:Γ.lb.length<1000000000) (k:Nat) (L:List Instr) (res lab:Int) :
  zbf (k+1) Γ.env (St8.mk l u aw dd mo ok) L res lab=(zaX k (Env8.mk Γ.m Γ.t.result Γ.ls (Γ.lb++[lab])) (St8.mk [] (wI (u+(l.length:Int))) false (aw||dd) mo ok) L).bind fun j7 => (zad j7 res).bind fun x8 => some (St8.mk l u aw dd x8.1.most (x8.1.ok&&decide (x8.1.l.length=0))):=by
 simp only [zbf]
 rw [zax (by show Γ.lb.length * 1≤_; omega),zax (by show (Γ.lb.length+1) * 1≤_; omega)]
 have e:∀ j7:St8,((zad j7 res).bind fun x8 => (if x8.1.ok=true then some ((x8.1.l.length:Int)==(0:Int)) else some false).bind (fun j10 => some (St8.mk l u aw dd x8.1.most j10)))=(zad j7 res).bind fun x8 => some (St8.mk l u aw dd x8.1.most (x8.1.ok&&decide (x8.1.l.length=0))):=by
  intro j7
  congr 1
  funext x8
  have:((x8.1.l.length:Int)==(0:Int))=decide (x8.1.l.length=0):=by
   by_cases h:x8.1.l.length=0
   ·rw [h]; rfl
   ·rw [decide_eq_false h]; simp; simpa using h
  rw [this]
  cases x8.1.ok <;> rfl
 have e2:(fun j7:St8 => ((zad j7 res).bind fun x8 => (if x8.1.ok=true then some ((x8.1.l.length:Int)==(0:Int)) else some false).bind (fun j10 => some (St8.mk l u aw dd x8.1.most j10))))=fun j7 => (zad j7 res).bind fun x8 => some (St8.mk l u aw dd x8.1.most (x8.1.ok&&decide (x8.1.l.length=0))):=funext e
 show ((if aw=true then ((zaX k (Env8.mk Γ.m Γ.t.result Γ.ls (Γ.lb++[lab])) (St8.mk [] (wI (u+(l.length:Int))) false true mo ok) L).bind fun x3 => some x3) else ((zaX k (Env8.mk Γ.m Γ.t.result Γ.ls (Γ.lb++[lab])) (St8.mk [] (wI (u+(l.length:Int))) false dd mo ok) L).bind fun x3 => some x3)).bind fun j7:St8 => ((zad j7 res).bind fun x8 => (if x8.1.ok=true then some ((x8.1.l.length:Int)==(0:Int)) else some false).bind (fun j10 => some (St8.mk l u aw dd x8.1.most j10))))=_
 rw [e2]
 cases aw <;> simp only [Option.bind_fun_some] <;> rfl
theorem rinnerB {Γ:Ctx} {N k:Nat} (hb:Γ.lb.length<1000000000) {s:St8} (h:BadR N s) (L:List Instr) (res lab:Int):∃ s',zbf (k+3) Γ.env s L res lab=some s'∧BadR N s':=by
 obtain ⟨l,u,aw,dd,mo,ok⟩:=s
 obtain ⟨h1,h2⟩:=h
 obtain rfl:ok=false:=h1
 rw [zuo hb,zwH (by rfl),Option.bind_some]
 obtain ⟨v,s',e,hb'⟩:=rtakeB (N:=0) (by decide) (s:=St8.mk [] (wI (u+(l.length:Int))) false (aw||dd) mo false) ⟨rfl,Nat.le_refl 0⟩ res
 rw [e,Option.bind_some]
 refine ⟨_,rfl,?_,h2⟩
 show (s'.ok&&decide (s'.l.length=0))=false
 rw [hb'.1]; rfl
theorem zmo {Γ:Ctx} {N k:Nat} {c:Checker} {s:St8} (L:List Instr) {res lab:Int} (hr:K3 res) (g:Gd Γ (N+L.length+1)) (hf:Γ.fr.length+1<1000000000) (hl:Γ.lb.length+1<1000000000)
  (ih:∀ (l:List Int) (aw dd:Bool) (c:Checker) (s:St8),l.length≤N→Sim (Γ.sub l aw dd lab) 0 c s→∃ c' s',zal (k+2) c L=some c'∧zaX (k+2) (Γ.sub l aw dd lab).env s L=some s'∧Sim (Γ.sub l aw dd lab) L.length c' s')
  (h:Sim Γ N c s):∃ c' s',zaj (k+3) c L res lab=some c'∧zbf (k+3) Γ.env s L res lab=some s'∧Sim Γ N c' s':=by
 rcases h with ⟨l,aw,dd,mo,h1,h2,rfl,rfl⟩ | ⟨h1,h2⟩
 ·have gl:Gd Γ (l.map fk).length:=g.mono (by rw [List.length_map]; omega)
  have gs:Gd (Γ.sub (l.map fk) aw dd lab) L.length:=by
   have:Gd Γ ((l.map fk).length+L.length):=g.mono (by rw [List.length_map]; omega)
   exact this.sub (N:=0) hf hl
  have hu:((Γ.sub (l.map fk) aw dd lab).un.length:Int)=(Γ.un.length:Int)+(l.length:Int):=by simp [Ctx.sub]
  have hw:wI ((Γ.un.length:Int)+(l.length:Int))=((Γ.sub (l.map fk) aw dd lab).un.length:Int):=by
   have:=g.un
   rw [hu,wI_small (by omega) (by omega)]
  rw [zvJ gl,zuo (by omega),hw]
  have s0:Sim (Γ.sub (l.map fk) aw dd lab) 0 (CC (Γ.sub (l.map fk) aw dd lab) [] false (aw||dd) mo false) (St8.mk [] ((Γ.sub (l.map fk) aw dd lab).un.length:Int) false (aw||dd) mo true):=
   .inl ⟨[],false,aw||dd,mo,(fun x hx => by cases hx),Nat.le_refl 0,rfl,rfl⟩
  obtain ⟨c1,s1,e1,e2,h3⟩:=ih (l.map fk) aw dd _ _ (by rw [List.length_map]; exact h2) s0
  have e2':zaX (k+2) (Env8.mk Γ.m Γ.t.result Γ.ls (Γ.lb++[lab])) (St8.mk [] ((Γ.sub (l.map fk) aw dd lab).un.length:Int) false (aw||dd) mo true) L=some s1:=e2
  rw [e1,e2',Option.bind_some,Option.bind_some]
  obtain ⟨v,c2,v',s2,e3,e4,h4,_⟩:=zbY gs h3 (Vk.of3 hr)
  rw [e4,Option.bind_some]
  rcases h3 with ⟨l2,aw2,dd2,mo2,k1,k2,rfl,rfl⟩ | ⟨⟨l2,aw2,dd2,mo2,k1,rfl⟩,k2⟩
  ·have gl2:Gd (Γ.sub (l.map fk) aw dd lab) (l2.map fk).length:=gs.mono (by rw [List.length_map]; omega)
   rw [zto _ _ _ _ _ _ _ gl2] at e3
   obtain ⟨_,rfl⟩:=Prod.mk.inj (Option.some.inj e3)
   rw [zts _ _ _ _ _ _ _ (by have:=gs.un; omega)] at e4
   obtain ⟨rfl,_⟩:=Prod.mk.inj (Option.some.inj e4)
   rw [zwS (N:=0) gl gl2]
   refine ⟨_,_,rfl,rfl,?_⟩
   have hb:=h4.bad
   have hb':tB (l2.map fk) aw2 false res = !rB l2 aw2 true res:=hb
   have hlen:(tL (l2.map fk) res).length=(tL l2 res).length:=by
    unfold tL; split
    ·rw [List.length_map]
    ·rw [List.length_dropLast,List.length_dropLast,List.length_map]
   rw [hb',hlen]
   show Sim Γ N _ (St8.mk l (Γ.un.length:Int) aw dd mo2 (rB l2 aw2 true res&&decide ((tL l2 res).length=0)))
   cases hB:rB l2 aw2 true res with
   | false => exact .inr ⟨⟨l.map fk,aw,dd,mo2,by rw [List.length_map]; exact h2,rfl⟩,rfl,h2⟩
   | true => 
    by_cases h0:(tL l2 res).length=0
    ·rw [decide_eq_true h0,decide_eq_false (by simpa using h0)]
     exact .inl ⟨l,aw,dd,mo2,h1,h2,rfl,rfl⟩
    ·rw [decide_eq_false h0,decide_eq_true (by simpa using h0)]
     exact .inr ⟨⟨l.map fk,aw,dd,mo2,by rw [List.length_map]; exact h2,rfl⟩,rfl,h2⟩
  ·rw [zwS (N:=0) gl (gs.mono k1)]
   refine ⟨_,_,rfl,rfl,?_⟩
   have hT:tB l2 aw2 true res=true:=by
    unfold tB; split
    ·rfl
    ·split <;> rfl
   have hR:s2.ok=false:=by
    obtain ⟨v3,s3,e5,h5⟩:=rtakeB (by have:=gs.un; omega) k2 res
    rw [e5] at e4
    obtain ⟨rfl,_⟩:=Prod.mk.inj (Option.some.inj e4)
    exact h5.1
   rw [hT,Bool.true_or]
   refine .inr ⟨⟨l.map fk,aw,dd,mo2,by rw [List.length_map]; exact h2,rfl⟩,?_,h2⟩
   show (s2.ok&&_)=false
   rw [hR]; rfl
 ·obtain ⟨c',e,hb⟩:=innerB (k:=k) (g.mono (by omega)) hf hl h1 L res lab
  obtain ⟨s',e',hb'⟩:=rinnerB (Γ:=Γ) (k:=k) (by omega) h2 L res lab
  exact ⟨c',s',e,e',.inr ⟨hb,hb'⟩⟩
def opOk (i:Int):Bool:=
 match zlm i,zkm i,zln i,zkn i,ziz i,ziy i with
 | some (t,e),some (p,r,is),some (f,fe),some (f',_),some (n,_,be),some (n',_,bs) => 
  (e.isNone==is)&&(!is||((t.params==p)&&(t.result==r)&&fe.isNone&&(f==f')&&(n==n')&&(be.isNone==bs)&&decide (0≤n∧n≤8)&&p.all (fun x => x==126||x==127)&&(r==0||r==126||r==127)&&decide (p.length<10)))&&(!(decide (i<26)&&decide (4<i)&&!(decide (12≤i)&&decide (i≤17)))||!is)
 | _,_,_,_,_,_ => false
theorem allOps:(List.range 256).all (fun i => opOk (i:Int))=true:=by kernel_rfl
theorem zyL (i:Int) (h0:0≤i) (h1:i<256):opOk i=true:=by
 have:=List.all_eq_true.1 allOps i.toNat (List.mem_range.2 (by omega))
 have e:((i.toNat:Nat):Int)=i:=by omega
 rw [e] at this
 exact this
structure OpS (i:Int) (t:Typ) (is:Bool) (f n:Int) (bs:Bool):Prop where
 sg:∃ e,zlm i=some (t,e)∧e.isNone=is
 rsg:∃ p r,zkm i=some (p,r,is)∧(is=true→p=t.params∧r=t.result)
 fo:∃ f' fe,zln i=some (f',fe)∧(is=true→f'=f∧fe.isNone=true)
 rfo:∃ fe,zkn i=some (f,fe)
 by_:∃ n' sg be,ziz i=some (n',sg,be)∧(is=true→n'=n∧be.isNone=bs)
 rby:∃ sg,ziy i=some (n,sg,bs)
 tok:is=true→TOk 10 t∧0≤n∧n≤8
 low:i<26→4<i→¬ (12≤i∧i≤17)→is=false
theorem zwT (i:Int) (h0:0≤i) (h1:i<256):∃ t is f n bs,OpS i t is f n bs:=by
 have h:=zyL i h0 h1
 unfold opOk at h
 split at h
 ·rename_i t e p r is f fe f' fe' n sg be n' sg' bs q1 q2 q3 q4 q5 q6
  simp only [Bool.and_eq_true,Bool.or_eq_true,beq_iff_eq,decide_eq_true_eq,Bool.not_eq_true',Bool.and_eq_false_iff,decide_eq_false_iff_not,List.all_eq_true,Bool.not_eq_false'] at h
  obtain ⟨⟨a1,a2⟩,a3⟩:=h
  refine ⟨t,is,f',n',bs,⟨e,q1,a1⟩,⟨p,r,q2,fun hi => ?_⟩,⟨f,fe,q3,fun hi => ?_⟩,⟨fe',q4⟩,⟨n,sg,be,q5,fun hi => ?_⟩,⟨sg',q6⟩,fun hi => ?_,fun i1 i2 i3 => ?_⟩
  ·rcases a2 with a2 | a2
   ·rw [hi] at a2; cases a2
   ·exact ⟨a2.1.1.1.1.1.1.1.1.1.symm,a2.1.1.1.1.1.1.1.1.2.symm⟩
  ·rcases a2 with a2 | a2
   ·rw [hi] at a2; cases a2
   ·exact ⟨a2.1.1.1.1.1.1.2,a2.1.1.1.1.1.1.1.2⟩
  ·rcases a2 with a2 | a2
   ·rw [hi] at a2; cases a2
   ·exact ⟨a2.1.1.1.1.1.2,a2.1.1.1.1.2⟩
  ·rcases a2 with a2 | a2
   ·rw [hi] at a2; cases a2
   ·obtain ⟨⟨⟨⟨⟨⟨⟨⟨⟨b1,b2⟩,b3⟩,b4⟩,b5⟩,b6⟩,b7⟩,b8⟩,b9⟩,b10⟩:=a2
    refine ⟨⟨fun x hx => ?_,?_,by rw [b1]; exact b10⟩,by omega,by omega⟩
    ·rw [b1] at hx; exact b8 x hx
    ·rw [b2]; rcases b9 with (h | h) | h
     ·exact .inl h
     ·exact .inr (.inl h)
     ·exact .inr (.inr h)
  ·rcases a3 with a3 | a3
   ·exfalso
    rcases a3 with (h | h) | h
    ·omega
    ·omega
    ·exact i3 h
   ·exact a3
 ·cases h
structure COk (Γ:Ctx) (P:Nat):Prop where
 typ:∀ t∈Γ.m.types,TOk P t
 glo:∀ g∈Γ.m.globals,K2 g.kind
 ls:∀ x∈Γ.ls,K2 x
 lb:∀ x∈Γ.lb,K3 x
 res:K3 Γ.t.result
 P0:P<1000000000
 P1:10≤P
theorem COk.sub {Γ:Ctx} {P:Nat} (h:COk Γ P) (l:List Int) (aw dd:Bool) {lab:Int} (hl:K3 lab):COk (Γ.sub l aw dd lab) P:=
 ⟨h.typ,h.glo,h.ls,fun x hx => by
  rcases List.mem_append.1 hx with hx | hx
  ·exact h.lb x hx
  ·obtain rfl:x=lab:=by simpa using hx
   exact hl,h.res,h.P0,h.P1⟩
theorem setB_false (c:Checker):setB c false=c:=by cases c; simp [setB]
theorem setB_setB (c:Checker) (a b:Bool):setB (setB c a) b=setB c (a||b):=by cases c; simp [setB,Bool.or_assoc]
theorem setB_true (c:Checker):setB c true=Checker.mk c.m c.t c.locals c.stack c.frames c.labels c.most true:=by cases c; simp [setB]
theorem zxf (c:Checker) (b:Bool):(if c.bad=true then some (Checker.mk c.m c.t c.locals c.stack c.frames c.labels c.most true) else some (Checker.mk c.m c.t c.locals c.stack c.frames c.labels c.most b))=some (setB c b):=by
 cases c with
 | mk a1 a2 a3 a4 a5 a6 a7 bd => cases bd <;> rfl
theorem zvS (s:St8) (b:Bool) (f:Bool→Option St8):(if s.ok=true then some b else some false).bind f=f (s.ok&&b):=by
 cases s.ok <;> rfl
def inb (n:Int) (k:Nat):Prop:=0≤n∧n<(k:Int)
instance (n:Int) (k:Nat):Decidable (inb n k):=by unfold inb; infer_instance
theorem gdI {α:Type} {n:Int} {k:Nat} {e:Option α} (h:inb n k):gd (0≤n∧n<(k:Int)) e=e:=zax h
theorem ztx (c:Checker) (n:Int):zaG c n=some (if inb n c.locals.length then c.locals.getD n.toNat default else 1,setB c (!decide (inb n c.locals.length))):=by
 unfold zaG
 by_cases h:inb n c.locals.length
 ·rw [if_pos h,decide_eq_true h,if_neg (by unfold inb at h; simp; omega),gdI h,Bool.not_true,setB_false]
 ·rw [if_neg h,decide_eq_false h,if_pos (by unfold inb at h; simp; omega),Bool.not_false,setB_true]
def gl0:Glo:=Glo.mk 1 true (Instr.mk 0 0 0 0 0 [] [] [])
theorem zuA (c:Checker) (n:Int):zaH c n=some (if inb n c.m.globals.length then c.m.globals.getD n.toNat default else gl0,setB c (!decide (inb n c.m.globals.length))):=by
 unfold zaH
 by_cases h:inb n c.m.globals.length
 ·rw [if_pos h,decide_eq_true h,if_neg (by unfold inb at h; simp; omega),gdI h,Bool.not_true,setB_false]
 ·rw [if_neg h,decide_eq_false h,if_pos (by unfold inb at h; simp; omega),Bool.not_false,setB_true]; rfl
def ty0:Typ:=Typ.mk [] 0
theorem zxM (c:Checker) (n:Int):zbg c n=some (if inb n c.m.types.length then c.m.types.getD n.toNat default else ty0,setB c (!decide (inb n c.m.types.length))):=by
 unfold zbg
 by_cases h:inb n c.m.types.length
 ·rw [if_pos h,decide_eq_true h,if_neg (by unfold inb at h; simp; omega),gdI h,Bool.not_true,setB_false]
 ·rw [if_neg h,decide_eq_false h,if_pos (by unfold inb at h; simp; omega),Bool.not_false,setB_true]; rfl
theorem zuM (n:Int) (k:Nat):zbN n (k:Int)=some (decide (inb n k)):=by
 unfold zbN inb
 by_cases h1:0≤n <;> by_cases h2:n<(k:Int) <;> simp [h1,h2]
theorem getD_memI {α:Type} [Inhabited α] {l:List α} {n:Int} (h:inb n l.length):l.getD n.toNat default∈l:=by
 have:=getD_mem l n.toNat (by unfold inb at h; omega)
 have e:((n.toNat:Nat):Int)=n:=by unfold inb at h; omega
 rw [e] at this
 exact this
theorem lbK {lb:List Int} (h:∀ x∈lb,K3 x) (n:Int):K3 (lbV lb n):=by
 unfold lbV
 split
 ·rename_i hh
  exact h _ (getD_memI (by unfold inb; omega))
 ·exact .inl rfl
theorem Sim.rl {Γ:Ctx} {N:Nat} {c:Checker} {s:St8} (h:Sim Γ N c s):s.l.length≤N:=by
 rcases h with ⟨l,aw,dd,mo,h1,h2,rfl,rfl⟩ | ⟨_,h⟩
 ·exact h2
 ·exact h.2
theorem Sim.badR {Γ:Ctx} {N:Nat} {c:Checker} {s:St8} (h:Sim Γ N c s):BadR N (St8.mk s.l s.under s.away s.dead s.most false):=⟨rfl,h.rl⟩
theorem Sim.badV {Γ:Ctx} {N:Nat} {c:Checker} {s:St8} (h:Sim Γ N c s):BadV Γ N (setB c true):=h.toBad.1
theorem Sim.fld {Γ:Ctx} {N:Nat} {c:Checker} {s:St8} (h:Sim Γ N c s):c.m=Γ.m∧c.t=Γ.t∧c.locals=Γ.ls:=by
 rcases h with ⟨l,aw,dd,mo,h1,h2,rfl,rfl⟩ | ⟨⟨l,aw,dd,mo,h1,rfl⟩,_⟩ <;> exact ⟨rfl,rfl,rfl⟩
theorem BadV.fld {Γ:Ctx} {N:Nat} {c:Checker} (h:BadV Γ N c):c.m=Γ.m∧c.t=Γ.t∧c.locals=Γ.ls:=by
 obtain ⟨l,aw,dd,mo,h1,rfl⟩:=h; exact ⟨rfl,rfl,rfl⟩
def StB (Γ:Ctx) (N:Nat) (a:Option Checker) (b:Option St8):Prop:=∃ c' s',a=some c'∧b=some s'∧Sim Γ N c' s'
theorem StB.ofB {Γ:Ctx} {N:Nat} {a:Option Checker} {b:Option St8} (h1:∃ c',a=some c'∧BadV Γ N c') (h2:∃ s',b=some s'∧BadR N s'):StB Γ N a b:=by
 obtain ⟨c',e1,h1⟩:=h1
 obtain ⟨s',e2,h2⟩:=h2
 exact ⟨c',s',e1,e2,.inr ⟨h1,h2⟩⟩
theorem zuV {Γ:Ctx} {N P:Nat} {c:Checker} {s:St8} (g:Gd Γ N) (o:COk Γ P) (h:Sim Γ N c s) (hk:s.ok=true) (x:Instr) (h1:32≤x.op) (h2:x.op≤36) :
  StB Γ (N+1) (zah c x) (zaK Γ.env s x):=by
 obtain ⟨op,n,al,of_,res,body,els,labels⟩:=x
 have f:=h.fld
 have hop:op=32∨op=33∨op=34∨op=35∨op=36:=by simp only [Instr.op] at h1 h2; omega
 obtain ⟨sl,su,sa,sd,sm,so⟩:=s
 obtain rfl:so=true:=hk
 rcases hop with rfl | rfl | rfl | rfl | rfl
 ·have e1:zah c (Instr.mk 32 n al of_ res body els labels)=(zaG c n).bind fun x11 => (zag x11.2 x11.1).bind fun x13 => some x13:=rfl
  have e2:zaK Γ.env (St8.mk sl su sa sd sm true) (Instr.mk 32 n al of_ res body els labels)=(zbN n (Γ.ls.length:Int)).bind fun x2 => if (!x2)=true then some (St8.mk sl su sa sd sm false) else (gd (0≤n∧n<(Γ.ls.length:Int)) (some (Γ.ls.getD n.toNat default,true))).bind fun | (j4,j5) => ((zaP (St8.mk sl su sa sd sm j5) j4).bind fun x8 => some x8).bind fun j7 => some j7:=by
   unfold zaK
   simp only [Instr.op,Instr.n,Ctx.env]
   rfl
  rw [e1,e2,ztx,Option.bind_some,zuM,Option.bind_some,f.2.2]
  by_cases hi:inb n Γ.ls.length
  ·rw [if_pos hi,decide_eq_true hi,if_neg (by decide),gdI hi,Option.bind_some,Bool.not_true,setB_false]
   obtain ⟨c',s',e3,e4,h'⟩:=zmf g h (Vk.of2 (o.ls _ (getD_memI hi)))
   exact ⟨c',s',by rw [e3]; rfl,by show (((zaP _ _).bind _).bind _)=_; rw [e4]; rfl,h'⟩
  ·rw [if_neg hi,decide_eq_false hi,if_pos (by decide),Bool.not_false]
   refine StB.ofB ?_ ⟨_,rfl,h.badR.mono (by omega)⟩
   obtain ⟨c',e,hb⟩:=layB g h.badV 1
   exact ⟨c',by rw [e]; rfl,hb⟩
 ·have e1:zah c (Instr.mk 33 n al of_ res body els labels)=(zaG c n).bind fun x11 => (zac x11.2 x11.1).bind fun x13 => some x13.2:=rfl
  have e2:zaK Γ.env (St8.mk sl su sa sd sm true) (Instr.mk 33 n al of_ res body els labels)=(zbN n (Γ.ls.length:Int)).bind fun x2 => if (!x2)=true then some (St8.mk sl su sa sd sm false) else (gd (0≤n∧n<(Γ.ls.length:Int)) (some (Γ.ls.getD n.toNat default,true))).bind fun | (j4,j5) => ((zad (St8.mk sl su sa sd sm j5) j4).bind fun x13 => some x13.1).bind fun j6 => some j6:=by
   unfold zaK
   simp only [Instr.op,Instr.n,Ctx.env]
   rfl
  rw [e1,e2,ztx,Option.bind_some,zuM,Option.bind_some,f.2.2]
  by_cases hi:inb n Γ.ls.length
  ·rw [if_pos hi,decide_eq_true hi,if_neg (by decide),gdI hi,Option.bind_some,Bool.not_true,setB_false]
   obtain ⟨v,c',v',s',e3,e4,h',_⟩:=zbY g h (Vk.of2 (o.ls _ (getD_memI hi)))
   exact ⟨c',s',by rw [e3]; rfl,by show (((zad _ _).bind _).bind _)=_; rw [e4]; rfl,h'.mono (by omega)⟩
  ·rw [if_neg hi,decide_eq_false hi,if_pos (by decide),Bool.not_false]
   refine StB.ofB ?_ ⟨_,rfl,h.badR.mono (by omega)⟩
   obtain ⟨v,c',e,hb⟩:=takeB g h.badV 1
   exact ⟨c',by rw [e]; rfl,hb.mono (by omega)⟩
 ·have e1:zah c (Instr.mk 34 n al of_ res body els labels)=(zaG c n).bind fun x19 => (zac x19.2 x19.1).bind fun x21 => (zag x21.2 x19.1).bind fun x23 => some x23:=rfl
  have e2:zaK Γ.env (St8.mk sl su sa sd sm true) (Instr.mk 34 n al of_ res body els labels)=(zbN n (Γ.ls.length:Int)).bind fun x2 => if (!x2)=true then some (St8.mk sl su sa sd sm false) else (gd (0≤n∧n<(Γ.ls.length:Int)) (some (Γ.ls.getD n.toNat default,true))).bind fun | (j4,j5) => ((zad (St8.mk sl su sa sd sm j5) j4).bind fun x13 => some x13.1).bind fun j6 => ((zaP j6 j4).bind fun x8 => some x8).bind fun j7 => some j7:=by
   unfold zaK
   simp only [Instr.op,Instr.n,Ctx.env]
   rfl
  rw [e1,e2,ztx,Option.bind_some,zuM,Option.bind_some,f.2.2]
  by_cases hi:inb n Γ.ls.length
  ·rw [if_pos hi,decide_eq_true hi,if_neg (by decide),gdI hi,Option.bind_some,Bool.not_true,setB_false]
   obtain ⟨v,c',v',s',e3,e4,h',_⟩:=zbY g h (Vk.of2 (o.ls _ (getD_memI hi)))
   obtain ⟨c2,s2,e5,e6,h2⟩:=zmf g h' (Vk.of2 (o.ls _ (getD_memI hi)))
   refine ⟨c2,s2,?_,?_,h2⟩
   ·rw [e3,Option.bind_some,e5]; rfl
   ·show (((zad _ _).bind _).bind _)=_
    rw [e4,Option.bind_some,Option.bind_some,e6]; rfl
  ·rw [if_neg hi,decide_eq_false hi,if_pos (by decide),Bool.not_false]
   refine StB.ofB ?_ ⟨_,rfl,h.badR.mono (by omega)⟩
   obtain ⟨v,c',e,hb⟩:=takeB g h.badV 1
   obtain ⟨c2,e',hb'⟩:=layB g hb 1
   exact ⟨c2,by rw [e,Option.bind_some,e']; rfl,hb'⟩
 ·have e1:zah c (Instr.mk 35 n al of_ res body els labels)=(zaH c n).bind fun x11 => (zag x11.2 x11.1.kind).bind fun x13 => some x13:=rfl
  have e2:zaK Γ.env (St8.mk sl su sa sd sm true) (Instr.mk 35 n al of_ res body els labels)=(zbN n (Γ.m.globals.length:Int)).bind fun x2 => if (!x2)=true then some (St8.mk sl su sa sd sm false) else (gd (0≤n∧n<(Γ.m.globals.length:Int)) (some ((Γ.m.globals.getD n.toNat default).kind,true))).bind fun | (j4,j5) => ((zaP (St8.mk sl su sa sd sm j5) j4).bind fun x8 => some x8).bind fun j7 => some j7:=by
   unfold zaK
   simp only [Instr.op,Instr.n,Ctx.env]
   rfl
  rw [e1,e2,zuA,Option.bind_some,zuM,Option.bind_some,f.1]
  by_cases hi:inb n Γ.m.globals.length
  ·rw [if_pos hi,decide_eq_true hi,if_neg (by decide),gdI hi,Option.bind_some,Bool.not_true,setB_false]
   obtain ⟨c',s',e3,e4,h'⟩:=zmf g h (Vk.of2 (o.glo _ (getD_memI hi)))
   exact ⟨c',s',by rw [e3]; rfl,by show (((zaP _ _).bind _).bind _)=_; rw [e4]; rfl,h'⟩
  ·rw [if_neg hi,decide_eq_false hi,if_pos (by decide),Bool.not_false]
   refine StB.ofB ?_ ⟨_,rfl,h.badR.mono (by omega)⟩
   obtain ⟨c',e,hb⟩:=layB g h.badV gl0.kind
   exact ⟨c',by rw [e]; rfl,hb⟩
 ·have e1:zah c (Instr.mk 36 n al of_ res body els labels)=(zaH c n).bind fun x29 => (zac (setB x29.2 (!x29.1.mut_)) x29.1.kind).bind fun x32 => some x32.2:=by
   show ((zaH c n).bind fun x29 => (if x29.2.bad=true then some (Checker.mk x29.2.m x29.2.t x29.2.locals x29.2.stack x29.2.frames x29.2.labels x29.2.most true) else some (Checker.mk x29.2.m x29.2.t x29.2.locals x29.2.stack x29.2.frames x29.2.labels x29.2.most (!x29.1.mut_))).bind (fun j31 => ((zac j31 x29.1.kind).bind fun x32 => some x32.2)))=_
   congr 1
   funext x29
   rw [zxf,Option.bind_some]
  have e2:zaK Γ.env (St8.mk sl su sa sd sm true) (Instr.mk 36 n al of_ res body els labels)=(zbN n (Γ.m.globals.length:Int)).bind fun x2 => if (!x2)=true then some (St8.mk sl su sa sd sm false) else (gd (0≤n∧n<(Γ.m.globals.length:Int)) ((gd (0≤n∧n<(Γ.m.globals.length:Int)) (some (Γ.m.globals.getD n.toNat default).mut_)).bind fun j20 => some ((Γ.m.globals.getD n.toNat default).kind,j20))).bind fun | (j4,j5) => ((zad (St8.mk sl su sa sd sm j5) j4).bind fun x13 => some x13.1).bind fun j6 => some j6:=by
   unfold zaK
   simp only [Instr.op,Instr.n,Ctx.env]
   rfl
  rw [e1,e2,zuA,Option.bind_some,zuM,Option.bind_some,f.1]
  by_cases hi:inb n Γ.m.globals.length
  ·rw [if_pos hi,decide_eq_true hi,if_neg (by decide),gdI hi,gdI hi,Option.bind_some,Option.bind_some,Bool.not_true,setB_false]
   have ha:=zkg h (!(Γ.m.globals.getD n.toNat default).mut_)
   obtain ⟨v,c',v',s',e3,e4,h',_⟩:=zbY g ha (Vk.of2 (o.glo _ (getD_memI hi)))
   refine ⟨c',s',by rw [e3]; rfl,?_,h'.mono (by omega)⟩
   rw [Bool.not_not] at e4
   show (((zad (setO (St8.mk sl su sa sd sm true) (Γ.m.globals.getD n.toNat default).mut_) _).bind _).bind _)=_
   rw [e4]; rfl
  ·rw [if_neg hi,decide_eq_false hi,if_pos (by decide),Bool.not_false]
   refine StB.ofB ?_ ⟨_,rfl,h.badR.mono (by omega)⟩
   obtain ⟨v,c',e,hb⟩:=takeB g (askB h.badV (!gl0.mut_)) gl0.kind
   exact ⟨c',by rw [e]; rfl,hb.mono (by omega)⟩
theorem zvz {Γ:Ctx} {N P K:Nat} {c:Checker} {s:St8} (g:Gd Γ N) (o:COk Γ P) (h:Sim Γ N c s) (hk:s.ok=true) (hK:P<K) (x:Instr) (k:Nat) :
  (x.op=16→StB Γ (N+1) (zab (k+1) c x) (zdt K Γ.env s x))∧(x.op=17→StB Γ (N+1) (zab (k+1) c x) (zdt K Γ.env s x)):=by
 obtain ⟨op,n,al,of_,res,body,els,labels⟩:=x
 have f:=h.fld
 have hty0:TOk P ty0:=⟨(fun p hp => by cases hp),.inl rfl,by have:=o.P1; show 0<P; omega⟩
 refine ⟨fun ho => ?_,fun ho => ?_⟩
 ·obtain rfl:op=16:=ho
  have e1:zab (k+1) c (Instr.mk 16 n al of_ res body els labels)=(zbj c n).bind fun x51 => (zaw x51.2 x51.1).bind fun x53 => some x53:=by
   simp only [zab]; rfl
  have e2:zdt K Γ.env s (Instr.mk 16 n al of_ res body els labels)=(zbN n (Γ.m.funcs.length:Int)).bind fun x1 => if (!x1)=true then some (St8.mk s.l s.under s.away s.dead s.most false) else gd (0≤n∧n<(Γ.m.funcs.length:Int)) ((zbN (wI (Γ.m.funcs.getD n.toNat default).type_) (Γ.m.types.length:Int)).bind fun x4 => if (!x4)=true then some (St8.mk s.l s.under s.away s.dead s.most false) else gd (0≤wI (Γ.m.funcs.getD n.toNat default).type_∧wI (Γ.m.funcs.getD n.toNat default).type_<(Γ.m.types.length:Int)) ((zcy K s (Γ.m.types.getD (wI (Γ.m.funcs.getD n.toNat default).type_).toNat default)).bind fun x7 => some x7)):=rfl
  rw [e1,e2,zuM,Option.bind_some]
  have hB:∀ c',BadV Γ N c'→∀ t,TOk P t→∃ c'',((zaw c' t).bind fun x53 => some x53)=some c''∧BadV Γ (N+1) c'':=fun c' hb t ht => by
   obtain ⟨c'',e,hb'⟩:=callB g hb t (by have:=ht.2.2; have:=o.P0; omega)
   exact ⟨c'',by rw [e]; rfl,hb'⟩
  unfold zbj
  rw [f.1]
  by_cases hi:inb n Γ.m.funcs.length
  ·have hi':=hi
   unfold inb at hi'
   rw [decide_eq_true hi,if_neg (by simp; omega),if_neg (by decide),gdI hi,gdI hi,zxM,zuM,Option.bind_some,Option.bind_some,Option.bind_some,f.1]
   by_cases hj:inb (wI (Γ.m.funcs.getD n.toNat default).type_) Γ.m.types.length
   ·rw [if_pos hj,decide_eq_true hj,if_neg (by decide),gdI hj,Bool.not_true,setB_false]
    obtain ⟨c',s',e3,e4,h'⟩:=ztp g h (o.typ _ (getD_memI hj)) o.P0 hK
    exact ⟨c',s',by rw [e3]; rfl,by rw [e4]; rfl,h'⟩
   ·rw [if_neg hj,decide_eq_false hj,if_pos (by decide),Bool.not_false]
    exact StB.ofB (hB _ h.badV _ hty0) ⟨_,rfl,h.badR.mono (by omega)⟩
  ·have hi':¬ (0≤n∧n<(Γ.m.funcs.length:Int)):=hi
   rw [decide_eq_false hi,if_pos (by simp; omega),if_pos (by decide),Option.bind_some,← f.1]
   have:=hB _ h.badV _ hty0
   rw [setB_true] at this
   exact StB.ofB this ⟨_,rfl,h.badR.mono (by omega)⟩
 ·obtain rfl:op=17:=ho
  have e1:zab (k+1) c (Instr.mk 17 n al of_ res body els labels)=(if c.bad=true then some (Checker.mk c.m c.t c.locals c.stack c.frames c.labels c.most true) else some (Checker.mk c.m c.t c.locals c.stack c.frames c.labels c.most ((c.m.tables.length:Int)==(0:Int)))).bind (fun j55 => ((zac j55 127).bind fun x56 => ((zbg x56.2 n).bind fun x58 => ((zaw x58.2 x58.1).bind fun x60 => some x60)))):=by
   simp only [zab]; rfl
  have e2:zdt K Γ.env s (Instr.mk 17 n al of_ res body els labels)=(if s.ok=true then some (decide ((Γ.m.tables.length:Int)>(0:Int))) else some false).bind (fun j9 => ((zad (St8.mk s.l s.under s.away s.dead s.most j9) 127).bind fun x10 => ((zbN n (Γ.m.types.length:Int)).bind fun x12 => (if (!x12)=true then some (St8.mk x10.1.l x10.1.under x10.1.away x10.1.dead x10.1.most false) else gd (0≤n∧n<(Γ.m.types.length:Int)) ((zcy K x10.1 (Γ.m.types.getD n.toNat default)).bind fun x15 => some x15))))):=rfl
  rw [e1,e2,zxf,zvS,Option.bind_some,f.1]
  have et:((Γ.m.tables.length:Int)==(0:Int)) = !decide ((Γ.m.tables.length:Int)>(0:Int)):=by
   by_cases h0:Γ.m.tables.length=0
   ·rw [h0]; rfl
   ·rw [decide_eq_true (by omega)]; simp; simpa using h0
  rw [et]
  have ha:=zkg h (!decide ((Γ.m.tables.length:Int)>(0:Int)))
  rw [Bool.not_not] at ha
  obtain ⟨v,c',v',s',e3,e4,h',_⟩:=zbY g ha (Vk.of2 (x:=127) (.inr rfl))
  have e4':zad (St8.mk s.l s.under s.away s.dead s.most (s.ok&&decide ((Γ.m.tables.length:Int)>(0:Int)))) 127=some (s',v'):=e4
  have f':=h'.fld
  rw [e3,e4',Option.bind_some,Option.bind_some,zxM,zuM,Option.bind_some,Option.bind_some]
  show StB Γ (N+1) ((zaw (setB c' (!decide (inb n c'.m.types.length))) (if inb n c'.m.types.length then c'.m.types.getD n.toNat default else ty0)).bind fun x60 => some x60) _
  rw [f'.1]
  by_cases hj:inb n Γ.m.types.length
  ·rw [if_pos hj,decide_eq_true hj,if_neg (by decide),gdI hj,Bool.not_true,setB_false]
   obtain ⟨c2,s2,e5,e6,h2⟩:=ztp g h' (o.typ _ (getD_memI hj)) o.P0 hK
   exact ⟨c2,s2,by rw [e5]; rfl,by rw [e6]; rfl,h2⟩
  ·rw [if_neg hj,decide_eq_false hj,if_pos (by decide),Bool.not_false]
   obtain ⟨c'',e,hb'⟩:=callB g h'.badV ty0 (by decide)
   exact StB.ofB ⟨c'',by rw [e]; rfl,hb'⟩ ⟨_,rfl,h'.badR.mono (by omega)⟩
theorem zxR {k:Nat} {e:Env8} {x:Instr} (hx:(x.op==(14:Int))=false) (y:Int×Bool) (b:Bool):zbW (k+1) e x y 0 b=some b:=by
 simp only [zbW]
 rw [hx,Bool.false_and,if_neg (by decide)]
theorem zyI {Γ:Ctx} {N P K:Nat} {c:Checker} {s:St8} (g:Gd Γ N) (o:COk Γ P) (h:Sim Γ N c s) (x:Instr) (k:Nat) (hx:x.op=12) :
  StB Γ (N+1) (zab (k+1) c x) (zbT (K+1) Γ.env s x):=by
 obtain ⟨op,n,al,of_,res,body,els,labels⟩:=x
 obtain rfl:op=12:=hx
 have e1:zab (k+1) c (Instr.mk 12 n al of_ res body els labels)=(zay c n).bind fun x31 => (zac x31.2 x31.1).bind fun x33 => (zar x33.2).bind fun x35 => some x35:=by
  simp only [zab]; rfl
 have e2:zbT (K+1) Γ.env s (Instr.mk 12 n al of_ res body els labels)=(zbS Γ.env n).bind fun x28 => (zbW (K+1) Γ.env (Instr.mk 12 n al of_ res body els labels) x28 0 x28.2).bind (fun j30 => (if s.ok=true then some j30 else some false).bind (fun j31 => ((zad (St8.mk s.l s.under s.away s.dead s.most j31) x28.1).bind fun x32 => ((zbU x32.1).bind fun x36 => some x36)))):=rfl
 obtain ⟨l1,l2,l3⟩:=zmn g h o.lb n
 rw [e1,e2,l1,l2,Option.bind_some,Option.bind_some,zxR (by rfl),Option.bind_some,zvS]
 have ha:=zkg h (!lbB Γ.lb n)
 rw [Bool.not_not] at ha
 obtain ⟨v,c',v',s',e3,e4,h',_⟩:=zbY g ha (Vk.of3 (lbK o.lb n))
 have e4':zad (St8.mk s.l s.under s.away s.dead s.most (s.ok&&lbB Γ.lb n)) (lbV Γ.lb n)=some (s',v'):=e4
 rw [e3,e4',Option.bind_some,Option.bind_some]
 obtain ⟨c2,s2,e5,e6,h2⟩:=zmm g h'
 exact ⟨c2,s2,by rw [e5]; rfl,by rw [e6]; rfl,h2.mono (by omega)⟩
theorem zxW {Γ:Ctx} {N P K:Nat} {c:Checker} {s:St8} (g:Gd Γ N) (o:COk Γ P) (h:Sim Γ N c s) (x:Instr) (k:Nat) (hx:x.op=13) :
  StB Γ (N+1) (zab (k+1) c x) (zbT (K+1) Γ.env s x):=by
 obtain ⟨op,n,al,of_,res,body,els,labels⟩:=x
 obtain rfl:op=13:=hx
 have e1:zab (k+1) c (Instr.mk 13 n al of_ res body els labels)=(zac c 127).bind fun x37 => (zay x37.2 n).bind fun x39 => (zac x39.2 x39.1).bind fun x41 => (zag x41.2 x39.1).bind fun x43 => some x43:=by
  simp only [zab]; rfl
 have e2:zbT (K+1) Γ.env s (Instr.mk 13 n al of_ res body els labels)=((zad s 127).bind fun x52 => some x52.1).bind fun j1 => (zbS Γ.env n).bind fun x28 => (zbW (K+1) Γ.env (Instr.mk 13 n al of_ res body els labels) x28 0 x28.2).bind (fun j30 => (if j1.ok=true then some j30 else some false).bind (fun j31 => ((zad (St8.mk j1.l j1.under j1.away j1.dead j1.most j31) x28.1).bind fun x32 => ((zaP x32.1 x28.1).bind fun x34 => some x34)))):=rfl
 obtain ⟨v,c1,v',s1,e3,e4,h1,_⟩:=zbY g h (Vk.of2 (x:=127) (.inr rfl))
 obtain ⟨l1,l2,l3⟩:=zmn g h1 o.lb n
 rw [e1,e2,e3,e4,Option.bind_some,Option.bind_some,Option.bind_some,l1,l2,Option.bind_some,Option.bind_some,zxR (by rfl),Option.bind_some,zvS]
 have ha:=zkg h1 (!lbB Γ.lb n)
 rw [Bool.not_not] at ha
 obtain ⟨v2,c2,v2',s2,e5,e6,h2,_⟩:=zbY g ha (Vk.of3 (lbK o.lb n))
 have e6':zad (St8.mk s1.l s1.under s1.away s1.dead s1.most (s1.ok&&lbB Γ.lb n)) (lbV Γ.lb n)=some (s2,v2'):=e6
 rw [e5,e6',Option.bind_some,Option.bind_some]
 obtain ⟨c3,s3,e7,e8,h3⟩:=zmf g h2 (Vk.of3 (lbK o.lb n))
 exact ⟨c3,s3,by rw [e7]; rfl,by rw [e8]; rfl,h3⟩
theorem zvZ {Γ:Ctx} {N:Nat} {c:Checker} {s:St8} (g:Gd Γ N) (h:Sim Γ N c s) (hl:∀ x∈Γ.lb,K3 x) (x:Instr) (hx:x.op=14) (hs:x.labels.length<1000) (v:Int) (c0:Checker) (b0:Bool):∀ (k K i:Nat) (b:Bool),i≤x.labels.length→x.labels.length - i<k→x.labels.length - i<K →
  ∃ b',zaO k x (v,c0) (setB c (!b)) (i:Int)=some (setB c (!b'))∧zbX K Γ.env x (v,b0) (i:Int) b=some b':=by
 intro k
 induction k with
 | zero => intro K i b _ h; omega
 | succ k ih => 
  intro K i b hi h1 h2
  cases K with
  | zero => omega
  | succ K => 
   simp only [zaO,zbX]
   have ho:(x.op==(14:Int))=true:=by rw [hx]; rfl
   by_cases hlt:i<x.labels.length
   ·have ha:=zkg h (!b)
    obtain ⟨l1,l2,l3⟩:=zmn g ha hl (wI (x.labels.getD (i:Int).toNat default))
    rw [if_pos (dltT hlt),if_pos (by rw [ho,dltT hlt]; rfl),zax (by omega),zax (by omega),l1,l2,Option.bind_some,Option.bind_some,wI_nat i (by omega)]
    have e:(if (lbV Γ.lb (wI (x.labels.getD (i:Int).toNat default)) != v)=true then some (Checker.mk (setB (setB c (!b)) (!lbB Γ.lb (wI (x.labels.getD (i:Int).toNat default)))).m (setB (setB c (!b)) (!lbB Γ.lb (wI (x.labels.getD (i:Int).toNat default)))).t (setB (setB c (!b)) (!lbB Γ.lb (wI (x.labels.getD (i:Int).toNat default)))).locals (setB (setB c (!b)) (!lbB Γ.lb (wI (x.labels.getD (i:Int).toNat default)))).stack (setB (setB c (!b)) (!lbB Γ.lb (wI (x.labels.getD (i:Int).toNat default)))).frames (setB (setB c (!b)) (!lbB Γ.lb (wI (x.labels.getD (i:Int).toNat default)))).labels (setB (setB c (!b)) (!lbB Γ.lb (wI (x.labels.getD (i:Int).toNat default)))).most true) else some (setB (setB c (!b)) (!lbB Γ.lb (wI (x.labels.getD (i:Int).toNat default)))))=some (setB c (!(b&&(lbB Γ.lb (wI (x.labels.getD (i:Int).toNat default))&&(lbV Γ.lb (wI (x.labels.getD (i:Int).toNat default))==v))))):=by
     by_cases hv:lbV Γ.lb (wI (x.labels.getD (i:Int).toNat default))=v
     ·rw [if_neg (by simpa using hv),setB_setB]
      have:(lbV Γ.lb (wI (x.labels.getD (i:Int).toNat default))==v)=true:=by simpa using hv
      rw [this]
      cases b <;> cases lbB Γ.lb (wI (x.labels.getD (i:Int).toNat default)) <;> rfl
     ·rw [if_pos (by simpa using hv),← setB_true,setB_setB,setB_setB]
      have:(lbV Γ.lb (wI (x.labels.getD (i:Int).toNat default))==v)=false:=by simpa using hv
      rw [this]
      cases b <;> cases lbB Γ.lb (wI (x.labels.getD (i:Int).toNat default)) <;> rfl
    refine (ih K (i+1) _ (by omega) (by omega) (by omega)).imp fun b' hb => ⟨?_,hb.2⟩
    refine Eq.trans ?_ hb.1
    exact congrArg (fun o => Option.bind o _) e
   ·rw [if_neg (dltF hlt),if_neg (by rw [ho,Bool.true_and]; exact dltF hlt)]
    exact ⟨b,rfl,rfl⟩
theorem zxo {Γ:Ctx} {N P K:Nat} {c:Checker} {s:St8} (g:Gd Γ N) (o:COk Γ P) (h:Sim Γ N c s) (x:Instr) (k:Nat) (hx:x.op=14) (hk:300<k) (hK:300<K) :
  StB Γ (N+1) (zab (k+1) c x) (zbT K Γ.env s x):=by
 have e1:zab (k+1) c x=(zbL k c x).bind fun x45 => some x45:=by
  obtain ⟨op,n,al,of_,res,body,els,labels⟩:=x
  obtain rfl:op=14:=hx
  simp only [zab]; rfl
 have e2:zbT K Γ.env s x=((zad s 127).bind fun x52 => some x52.1).bind fun j1 => (if (((x.labels.length:Int)==(0:Int))||(decide ((x.labels.length:Int)>(257:Int))))=true then some (St8.mk j1.l j1.under j1.away j1.dead j1.most false) else gd (0≤(wI ((x.labels.length:Int) - 1))∧(wI ((x.labels.length:Int) - 1))<(x.labels.length:Int)) ((zbS Γ.env (wI (x.labels.getD (wI ((x.labels.length:Int) - 1)).toNat default))).bind fun x3 => (zbX K Γ.env x x3 0 x3.2).bind (fun j5 => (if j1.ok=true then some j5 else some false).bind (fun j6 => ((zad (St8.mk j1.l j1.under j1.away j1.dead j1.most j6) x3.1).bind fun x7 => ((zbU x7.1).bind fun x11 => some x11)))))):=by
  obtain ⟨op,n,al,of_,res,body,els,labels⟩:=x
  obtain rfl:op=14:=hx
  rfl
 obtain ⟨v,c1,v',s1,e3,e4,h1,_⟩:=zbY g h (Vk.of2 (x:=127) (.inr rfl))
 rw [e1,e2,e4,Option.bind_some,Option.bind_some]
 unfold zbL
 rw [e3,Option.bind_some]
 by_cases hn:(((x.labels.length:Int)==(0:Int))||(decide ((x.labels.length:Int)>(257:Int))))=true
 ·rw [if_pos hn,if_pos hn]
  have hb:=h1.badV
  rw [setB_true] at hb
  exact StB.ofB ⟨_,rfl,hb.mono (by omega)⟩ ⟨_,rfl,h1.badR.mono (by omega)⟩
 ·rw [if_neg hn,if_neg hn]
  rw [Bool.or_eq_true,not_or] at hn
  have hn0:¬ ((x.labels.length:Int)=0):=fun e => hn.1 (by rw [e]; rfl)
  have hn1:¬ ((x.labels.length:Int)>257):=fun e => hn.2 (decide_eq_true e)
  have hlen:0<x.labels.length∧x.labels.length≤257:=by constructor <;> omega
  have hw:wI ((x.labels.length:Int) - 1)=(x.labels.length:Int) - 1:=wI_small (by omega) (by omega)
  rw [hw,zax (by omega),zax (by omega)]
  obtain ⟨l1,l2,l3⟩:=zmn g h1 o.lb (wI (x.labels.getD ((x.labels.length:Int) - 1).toNat default))
  have l1':zay (v,c1).2 (wI (x.labels.getD ((x.labels.length:Int) - 1).toNat default))=_:=l1
  rw [l1',l2,Option.bind_some,Option.bind_some]
  obtain ⟨b',t1,t2⟩:=zvZ g h1 o.lb x hx (by omega) (lbV Γ.lb (wI (x.labels.getD ((x.labels.length:Int) - 1).toNat default))) (setB c1 (!lbB Γ.lb (wI (x.labels.getD ((x.labels.length:Int) - 1).toNat default)))) (lbB Γ.lb (wI (x.labels.getD ((x.labels.length:Int) - 1).toNat default))) k K 0 (lbB Γ.lb (wI (x.labels.getD ((x.labels.length:Int) - 1).toNat default))) (by omega) (by omega) (by omega)
  have t1':=t1
  rw [show ((0:Nat):Int)=0 from rfl] at t1' t2
  show StB Γ (N+1) (((zaO k x (lbV Γ.lb (wI (x.labels.getD ((x.labels.length:Int) - 1).toNat default)),setB c1 (!lbB Γ.lb (wI (x.labels.getD ((x.labels.length:Int) - 1).toNat default)))) (setB c1 (!lbB Γ.lb (wI (x.labels.getD ((x.labels.length:Int) - 1).toNat default)))) 0).bind fun j6 => (zac j6 (lbV Γ.lb (wI (x.labels.getD ((x.labels.length:Int) - 1).toNat default)))).bind fun x7 => (zar x7.2).bind fun x9 => some x9).bind fun x45 => some x45) ((zbX K Γ.env x (lbV Γ.lb (wI (x.labels.getD ((x.labels.length:Int) - 1).toNat default)),lbB Γ.lb (wI (x.labels.getD ((x.labels.length:Int) - 1).toNat default))) 0 (lbB Γ.lb (wI (x.labels.getD ((x.labels.length:Int) - 1).toNat default)))).bind fun j5 => (if s1.ok=true then some j5 else some false).bind (fun j6 => ((zad (St8.mk s1.l s1.under s1.away s1.dead s1.most j6) (lbV Γ.lb (wI (x.labels.getD ((x.labels.length:Int) - 1).toNat default)))).bind fun x7 => ((zbU x7.1).bind fun x11 => some x11))))
  rw [t1',t2,Option.bind_some,Option.bind_some,zvS]
  have ha:=zkg h1 (!b')
  rw [Bool.not_not] at ha
  obtain ⟨v2,c2,v2',s2,e5,e6,h2,_⟩:=zbY g ha (Vk.of3 (lbK o.lb (wI (x.labels.getD ((x.labels.length:Int) - 1).toNat default))))
  have e6':zad (St8.mk s1.l s1.under s1.away s1.dead s1.most (s1.ok&&b')) (lbV Γ.lb (wI (x.labels.getD ((x.labels.length:Int) - 1).toNat default)))=some (s2,v2'):=e6
  rw [e5,e6',Option.bind_some,Option.bind_some]
  obtain ⟨c3,s3,e7,e8,h3⟩:=zmm g h2
  exact ⟨c3,s3,by rw [e7]; rfl,by rw [e8]; rfl,h3.mono (by omega)⟩
theorem zxX (x:Instr) (K:Nat) (hK:10<K) (ha:0≤x.align):zbe K x 1 0=some (if x.align≤3 then 2 ^ x.align.toNat else 16):=by
 obtain ⟨k,rfl⟩:∃ k,K=k+6:=⟨K - 6,by omega⟩
 have w1:wI (2 * 1)=2:=by decide
 have w2:wI (2 * 2)=4:=by decide
 have w3:wI (2 * 4)=8:=by decide
 have w4:wI (2 * 8)=16:=by decide
 have u0:IntKind.wrap .u32 (0+1)=1:=by decide
 have u1:IntKind.wrap .u32 (1+1)=2:=by decide
 have u2:IntKind.wrap .u32 (2+1)=3:=by decide
 have u3:IntKind.wrap .u32 (3+1)=4:=by decide
 have hc:x.align=0∨x.align=1∨x.align=2∨x.align=3∨4≤x.align:=by omega
 rcases hc with h | h | h | h | h
 ·simp only [zbe,h]; rfl
 ·simp only [zbe,h,w1,u0]; rfl
 ·simp only [zbe,h,w1,w2,u0,u1]; rfl
 ·simp only [zbe,h,w1,w2,w3,u0,u1,u2]; rfl
 ·have d0:decide (0<x.align)=true:=decide_eq_true (by omega)
  have d1:decide (1<x.align)=true:=decide_eq_true (by omega)
  have d2:decide (2<x.align)=true:=decide_eq_true (by omega)
  have d3:decide (3<x.align)=true:=decide_eq_true (by omega)
  simp only [zbe,w1,w2,w3,w4,u0,u1,u2,u3,d0,d1,d2,d3]
  rw [if_neg (by omega:¬ x.align≤3)]
  have d4:decide ((16:Int)≤8)=false:=by decide
  rw [d4,Bool.and_false]
  rfl
theorem zxK (x:Instr) (ha:0≤x.align) (n:Int) (hn:0≤n∧n≤8) :
  (if decide (x.align>(3:Int))=true then true else decide ((wI (1 * 2 ^ (min x.align.toNat (IntKind.bits .i64))))>n)) = !decide ((if x.align≤3 then (2:Int) ^ x.align.toNat else 16)≤n):=by
 by_cases h:x.align≤3
 ·rw [if_neg (by simp; omega),if_pos h]
  have hc:x.align=0∨x.align=1∨x.align=2∨x.align=3:=by omega
  have e:wI (1 * 2 ^ (min x.align.toNat (IntKind.bits .i64)))=(2:Int) ^ x.align.toNat:=by
   rcases hc with h | h | h | h <;> rw [h] <;> decide
  rw [e]
  by_cases h2:(2:Int) ^ x.align.toNat≤n
  ·rw [decide_eq_true h2,decide_eq_false (by omega)]; rfl
  ·rw [decide_eq_false h2,decide_eq_true (by omega)]; rfl
 ·rw [if_pos (by simp; omega),if_neg h,decide_eq_false (by omega)]; rfl
theorem n32 (n:Int):(n != wI (IntKind.wrap .i32 n))=((decide (n<((-2147483648):Int)))||(decide (n≥(2147483648:Int)))):=by
 rw [IntKind.wrap_i32,wI_small (by omega) (by omega)]
 by_cases h:n < -2147483648
 ·rw [decide_eq_true h,Bool.true_or]
  simp only [bne_iff_ne,ne_eq]
  omega
 ·by_cases h2:n≥2147483648
  ·rw [decide_eq_true h2,Bool.or_true]
   simp only [bne_iff_ne,ne_eq]
   omega
  ·rw [decide_eq_false h,decide_eq_false h2]
   have:n=(n+2147483648) % 4294967296 - 2147483648:=by omega
   rw [← this]; simp
theorem zxp {Γ:Ctx} {N P K:Nat} {c:Checker} {s:St8} (g:Gd Γ N) (o:COk Γ P) (h:Sim Γ N c s) (hk:s.ok=true) (x:Instr) (h0:0≤x.op) (h1:x.op<256) (ha:0≤x.align) (hK:P<K) :
  StB Γ (N+1) (zbi c x) (zeF K Γ.env s x):=by
 obtain ⟨t,is,f,n,bs,S⟩:=zwT x.op h0 h1
 obtain ⟨e,q1,a1⟩:=S.sg
 obtain ⟨p,r,q2,a2⟩:=S.rsg
 obtain ⟨f',fe,q3,a3⟩:=S.fo
 obtain ⟨fe',q4⟩:=S.rfo
 obtain ⟨n',sg,be,q5,a5⟩:=S.by_
 obtain ⟨sg',q6⟩:=S.rby
 have fl:=h.fld
 have hcb:c.bad=false:=by rw [h.bad,hk]; rfl
 unfold zbi zeF
 rw [q1,q2,q4,q6,Option.bind_some,Option.bind_some,Option.bind_some,Option.bind_some]
 cases is with
 | false => 
  rw [if_pos (by rw [a1]; rfl),if_pos (by rfl)]
  have hb:=h.badV
  rw [setB_true] at hb
  exact StB.ofB ⟨_,rfl,hb.mono (by omega)⟩ ⟨_,rfl,h.badR.mono (by omega)⟩
 | true => 
  obtain ⟨rfl,rfl⟩:=a2 rfl
  obtain ⟨rfl,a3'⟩:=a3 rfl
  obtain ⟨rfl,a5'⟩:=a5 rfl
  obtain ⟨tok,hn⟩:=S.tok rfl
  have tok':TOk P t:=⟨tok.1,tok.2.1,by have:=tok.2.2; have:=o.P1; omega⟩
  rw [if_neg (by rw [a1]; decide),q5,Option.bind_some]
  have hal:∃ b:Bool,(if be.isNone=true then (if c.bad=true then some (Checker.mk c.m c.t c.locals c.stack c.frames c.labels c.most true) else (if (decide (x.align>(3:Int)))=true then some (Checker.mk c.m c.t c.locals c.stack c.frames c.labels c.most true) else gd (¬ x.align<0) (some (Checker.mk c.m c.t c.locals c.stack c.frames c.labels c.most (decide ((wI (1 * 2 ^ (min x.align.toNat (IntKind.bits .i64))))>n')))))).bind (fun j16 => some j16) else some c)=some (setB c (!b)) ∧
    (if bs=true then (zbe K x 1 0).bind (fun j10 => (if s.ok=true then some (decide (j10≤n')) else some false).bind (fun j11 => some j11)) else some s.ok)=some (s.ok&&b):=by
   rw [a5']
   cases bs with
   | false => exact ⟨true,by rw [if_neg (by decide),Bool.not_true,setB_false],by rw [if_neg (by decide),Bool.and_true]⟩
   | true => 
    refine ⟨decide ((if x.align≤3 then (2:Int) ^ x.align.toNat else 16)≤n'),?_,?_⟩
    ·rw [if_pos rfl,← zxK x ha n' hn,if_neg (by rw [hcb]; decide)]
     by_cases h3:decide (x.align>(3:Int))=true
     ·rw [if_pos h3,if_pos h3,setB_true]; rfl
     ·rw [if_neg h3,if_neg h3,zax (by omega)]
      unfold setB
      rw [hcb]; rfl
    ·rw [if_pos rfl,zxX x K (by have:=o.P1; omega) ha,Option.bind_some,hk]
     rfl
  obtain ⟨b,b1,b2⟩:=hal
  have key:∀ (A:Option Checker) (B:Option Bool) (F:Checker→Option Checker) (G:Bool→Option St8),A=some (setB c (!b))→B=some (s.ok&&b)→StB Γ (N+1) (F (setB c (!b))) (G (s.ok&&b))→StB Γ (N+1) (A.bind F) (B.bind G):=by
   intro A B F G h1 h2 h3
   rw [h1,h2]; exact h3
  have ha2:=zkg h (!b)
  rw [Bool.not_not] at ha2
  have em:(bif ((f'==(4:Int))||(f'==(5:Int))) then ((((setB c (!b)).m.memories.length:Int)==(0:Int))||((f'==(1:Int))&&(x.n != (wI (IntKind.wrap .i32 x.n))))) else ((f'==(1:Int))&&(x.n != (wI (IntKind.wrap .i32 x.n)))))=(bif (f'==(4:Int)) then (((Γ.m.memories.length:Int)==(0:Int))||((f'==(1:Int))&&((decide (x.n<((-2147483648):Int)))||(decide (x.n≥(2147483648:Int)))))) else (bif (f'==(5:Int)) then (((Γ.m.memories.length:Int)==(0:Int))||((f'==(1:Int))&&((decide (x.n<((-2147483648):Int)))||(decide (x.n≥(2147483648:Int)))))) else ((f'==(1:Int))&&((decide (x.n<((-2147483648):Int)))||(decide (x.n≥(2147483648:Int))))))):=by
   rw [n32,show (setB c (!b)).m=Γ.m from fl.1]
   cases f'==(4:Int) <;> cases f'==(5:Int) <;> rfl
  by_cases hF:(bif (f'==(4:Int)) then (((Γ.m.memories.length:Int)==(0:Int))||((f'==(1:Int))&&((decide (x.n<((-2147483648):Int)))||(decide (x.n≥(2147483648:Int)))))) else (bif (f'==(5:Int)) then (((Γ.m.memories.length:Int)==(0:Int))||((f'==(1:Int))&&((decide (x.n<((-2147483648):Int)))||(decide (x.n≥(2147483648:Int)))))) else ((f'==(1:Int))&&((decide (x.n<((-2147483648):Int)))||(decide (x.n≥(2147483648:Int)))))))=true
  ·have hc0:((!(t.params,t.result,true).2.2)||(bif ((f',fe').1==(4:Int)) then (((Γ.env.m.memories.length:Int)==(0:Int))||(((f',fe').1==(1:Int))&&((decide (x.n<((-2147483648):Int)))||(decide (x.n≥(2147483648:Int)))))) else (bif ((f',fe').1==(5:Int)) then (((Γ.env.m.memories.length:Int)==(0:Int))||(((f',fe').1==(1:Int))&&((decide (x.n<((-2147483648):Int)))||(decide (x.n≥(2147483648:Int)))))) else (((f',fe').1==(1:Int))&&((decide (x.n<((-2147483648):Int)))||(decide (x.n≥(2147483648:Int))))))))=true:=hF
   rw [if_pos hc0]
   refine StB.ofB ?_ ⟨_,rfl,h.badR.mono (by omega)⟩
   obtain ⟨c',e5,hb⟩:=callB g ha2.badV t (by have:=tok.2.2; omega)
   refine ⟨c',?_,hb⟩
   refine (congrArg (fun o => Option.bind o _) b1).trans ?_
   rw [Option.bind_some,q3,Option.bind_some]
   have hc1:((!(f',fe).2.isNone)||(bif (((f',fe).1==(4:Int))||((f',fe).1==(5:Int))) then ((((setB c (!b)).m.memories.length:Int)==(0:Int))||(((f',fe).1==(1:Int))&&(x.n != (wI (IntKind.wrap .i32 x.n))))) else (((f',fe).1==(1:Int))&&(x.n != (wI (IntKind.wrap .i32 x.n))))))=true:=by
    show ((!fe.isNone)||_)=true
    rw [a3']
    exact em.trans hF
   rw [if_pos hc1,Option.bind_some,← setB_true,e5]
   rfl
  ·have hc0:¬ ((!(t.params,t.result,true).2.2)||(bif ((f',fe').1==(4:Int)) then (((Γ.env.m.memories.length:Int)==(0:Int))||(((f',fe').1==(1:Int))&&((decide (x.n<((-2147483648):Int)))||(decide (x.n≥(2147483648:Int)))))) else (bif ((f',fe').1==(5:Int)) then (((Γ.env.m.memories.length:Int)==(0:Int))||(((f',fe').1==(1:Int))&&((decide (x.n<((-2147483648):Int)))||(decide (x.n≥(2147483648:Int)))))) else (((f',fe').1==(1:Int))&&((decide (x.n<((-2147483648):Int)))||(decide (x.n≥(2147483648:Int))))))))=true:=hF
   rw [if_neg hc0]
   refine key _ _ _ _ b1 b2 ?_
   rw [q3,Option.bind_some]
   have hc1:¬ ((!(f',fe).2.isNone)||(bif (((f',fe).1==(4:Int))||((f',fe).1==(5:Int))) then ((((setB c (!b)).m.memories.length:Int)==(0:Int))||(((f',fe).1==(1:Int))&&(x.n != (wI (IntKind.wrap .i32 x.n))))) else (((f',fe).1==(1:Int))&&(x.n != (wI (IntKind.wrap .i32 x.n))))))=true:=by
    intro hh
    apply hF
    rw [← em]
    have hh':((!fe.isNone)||_)=true:=hh
    rw [a3'] at hh'
    exact hh'
   rw [if_neg hc1,Option.bind_some]
   obtain ⟨c',s',e5,e6,h'⟩:=ztp g ha2 tok' o.P0 hK
   refine ⟨c',s',by rw [e5]; rfl,?_,h'⟩
   show ((zcy K (setO s b) t).bind fun x8 => some x8)=_
   rw [e6]; rfl
instance (r:Int):Decidable (K3 r):=by unfold K3; infer_instance
theorem zwQ (r:Int):zba r=some (decide (K3 r)):=by
 unfold zba
 by_cases h0:r=0
 ·subst h0; rfl
 by_cases h1:r=127
 ·subst h1; rfl
 by_cases h2:r=126
 ·subst h2; rfl
 have hn:¬ K3 r:=by unfold K3; omega
 rw [decide_eq_false hn]
 simp [h0,h1,h2]
theorem zye (r:Int):((r != (0:Int))&&((r != (127:Int))&&(r != (126:Int)))) = !decide (K3 r):=by
 by_cases h0:r=0
 ·subst h0; rfl
 by_cases h1:r=127
 ·subst h1; rfl
 by_cases h2:r=126
 ·subst h2; rfl
 have hn:¬ K3 r:=by unfold K3; omega
 rw [decide_eq_false hn]
 simp [h0,h1,h2]
def IH (Γ:Ctx) (N k:Nat) (L:List Instr):Prop:=
 ∀ (lab:Int),K3 lab→∀ (l:List Int) (aw dd:Bool) (c:Checker) (s:St8),l.length≤N→Sim (Γ.sub l aw dd lab) 0 c s→∃ c' s',zal (k+2) c L=some c'∧zaX (k+2) (Γ.sub l aw dd lab).env s L=some s'∧Sim (Γ.sub l aw dd lab) L.length c' s'
theorem zvt (c:Checker) (r:Int):(if c.bad=true then some (Checker.mk c.m c.t c.locals c.stack c.frames c.labels c.most true) else (zba r).bind fun x4 => some (Checker.mk c.m c.t c.locals c.stack c.frames c.labels c.most (!x4)))=some (setB c (!decide (K3 r))):=by
 rw [zwQ,Option.bind_some]
 exact zxf c _
theorem zxq {Γ:Ctx} {N P k:Nat} {c:Checker} {s:St8} (o:COk Γ P) (h:Sim Γ N c s) (x:Instr) (hx:x.op=2∨x.op=3∨x.op=4)
  (g:Gd Γ (N+x.body.length+x.els.length+1)) (hf:Γ.fr.length+1<1000000000) (hl:Γ.lb.length+1<1000000000) (i1:IH Γ N k x.body) (i2:IH Γ N k x.els) :
  StB Γ (N+1) (zab (k+4) c x) (zeH (k+4) Γ.env s x):=by
 obtain ⟨op,n,al,of_,res,body,els,labels⟩:=x
 have gN:Gd Γ N:=g.mono (by omega)
 have g1:Gd Γ (N+body.length+1):=g.mono (by show N+body.length+1≤N+body.length+els.length+1; omega)
 have g2:Gd Γ (N+els.length+1):=g.mono (by show N+els.length+1≤N+body.length+els.length+1; omega)
 have L0:∀ {c s},Sim Γ N c s→K3 res→∃ c' s',((zag c res).bind fun x10 => some x10)=some c'∧((zaP s res).bind fun x2 => some x2)=some s'∧Sim Γ (N+1) c' s':=fun h hr => by
  obtain ⟨c',s',e1,e2,h'⟩:=zmf gN h (Vk.of3 hr)
  exact ⟨c',s',by rw [e1]; rfl,by rw [e2]; rfl,h'⟩
 have LB:∀ {c},BadV Γ N c→∃ c',((zag c res).bind fun x10 => some x10)=some c'∧BadV Γ (N+1) c':=fun h => by
  obtain ⟨c',e1,h'⟩:=layB gN h res
  exact ⟨c',by rw [e1]; rfl,h'⟩
 have eb:∀ op,zeH (k+4) Γ.env s (Instr.mk op n al of_ res body els labels)=if ((res != (0:Int))&&((res != (127:Int))&&(res != (126:Int))))=true then some (St8.mk s.l s.under s.away s.dead s.most false) else (if (op==(2:Int))=true then ((zbf (k+3) Γ.env s body res res).bind fun x4 => some x4) else (if (op==(3:Int))=true then ((zbf (k+3) Γ.env s body res 0).bind fun x6 => some x6) else ((zad s 127).bind fun x8 => ((zbf (k+3) Γ.env x8.1 body res res).bind fun x10 => ((zbf (k+3) Γ.env x10 els res res).bind fun x12 => some x12))))).bind (fun j1 => ((zaP j1 res).bind fun x2 => some x2)):=fun op => by
  simp only [zeH]; rfl
 rw [eb,zye]
 have hx':op=2∨op=3∨op=4:=hx
 rcases hx' with rfl | rfl | rfl
 ·have e1:zab (k+4) c (Instr.mk 2 n al of_ res body els labels)=(if c.bad=true then some (Checker.mk c.m c.t c.locals c.stack c.frames c.labels c.most true) else (zba res).bind fun x4 => some (Checker.mk c.m c.t c.locals c.stack c.frames c.labels c.most (!x4))).bind fun j6 => (zaj (k+3) j6 body res res).bind fun x8 => (zag x8 res).bind fun x10 => some x10:=by
   simp only [zab]; rfl
  rw [e1,zvt,Option.bind_some]
  by_cases hr:K3 res
  ·rw [decide_eq_true hr,if_neg (by decide),if_pos (by rfl),Bool.not_true,setB_false]
   obtain ⟨c',s',e3,e4,h'⟩:=zmo body hr g1 hf hl (i1 res hr) h
   rw [e3,e4]
   exact L0 h' hr
  ·rw [decide_eq_false hr,if_pos (by decide),Bool.not_false]
   obtain ⟨c',e3,hb⟩:=innerB (k:=k) gN hf hl h.badV body res res
   rw [e3]
   exact StB.ofB (LB hb) ⟨_,rfl,h.badR.mono (by omega)⟩
 ·have e1:zab (k+4) c (Instr.mk 3 n al of_ res body els labels)=(if c.bad=true then some (Checker.mk c.m c.t c.locals c.stack c.frames c.labels c.most true) else (zba res).bind fun x4 => some (Checker.mk c.m c.t c.locals c.stack c.frames c.labels c.most (!x4))).bind fun j6 => (zaj (k+3) j6 body res 0).bind fun x8 => (zag x8 res).bind fun x10 => some x10:=by
   simp only [zab]; rfl
  rw [e1,zvt,Option.bind_some]
  by_cases hr:K3 res
  ·rw [decide_eq_true hr,if_neg (by decide),if_neg (by decide),if_pos (by rfl),Bool.not_true,setB_false]
   obtain ⟨c',s',e3,e4,h'⟩:=zmo body hr g1 hf hl (i1 0 (.inl rfl)) h
   rw [e3,e4]
   exact L0 h' hr
  ·rw [decide_eq_false hr,if_pos (by decide),Bool.not_false]
   obtain ⟨c',e3,hb⟩:=innerB (k:=k) gN hf hl h.badV body res 0
   rw [e3]
   exact StB.ofB (LB hb) ⟨_,rfl,h.badR.mono (by omega)⟩
 ·have e1:zab (k+4) c (Instr.mk 4 n al of_ res body els labels)=(if c.bad=true then some (Checker.mk c.m c.t c.locals c.stack c.frames c.labels c.most true) else (zba res).bind fun x4 => some (Checker.mk c.m c.t c.locals c.stack c.frames c.labels c.most (!x4))).bind fun j19 => (zac j19 127).bind fun x20 => (zaj (k+3) x20.2 body res res).bind fun x22 => (zaj (k+3) x22 els res res).bind fun x24 => (zag x24 res).bind fun x26 => some x26:=by
   simp only [zab]; rfl
  rw [e1,zvt,Option.bind_some]
  by_cases hr:K3 res
  ·rw [decide_eq_true hr,if_neg (by decide),if_neg (by decide),if_neg (by decide),Bool.not_true,setB_false]
   obtain ⟨v,c0,v',s0,e5,e6,h0,_⟩:=zbY gN h (Vk.of2 (x:=127) (.inr rfl))
   rw [e5,e6,Option.bind_some,Option.bind_some]
   obtain ⟨c1,s1,e3,e4,h1⟩:=zmo body hr g1 hf hl (i1 res hr) h0
   rw [e3,e4,Option.bind_some,Option.bind_some]
   obtain ⟨c2,s2,e7,e8,h2⟩:=zmo els hr g2 hf hl (i2 res hr) h1
   rw [e7,e8]
   exact L0 h2 hr
  ·rw [decide_eq_false hr,if_pos (by decide),Bool.not_false]
   obtain ⟨v,c0,e5,h0⟩:=takeB gN h.badV 127
   rw [e5,Option.bind_some]
   obtain ⟨c',e3,hb⟩:=innerB (k:=k) gN hf hl h0 body res res
   rw [e3,Option.bind_some]
   obtain ⟨c'',e4,hb'⟩:=innerB (k:=k) gN hf hl hb els res res
   rw [e4]
   exact StB.ofB (LB hb') ⟨_,rfl,h.badR.mono (by omega)⟩
def stepR (k:Nat) (p0:Env8) (a4:St8) (x:Instr):Option St8:=
 if ((x.op)==(0:Int))=true then ((zbU a4).bind fun x9 => some x9) else (if ((x.op)==(1:Int))=true then some a4 else (if ((decide ((x.op)≥(2:Int)))&&(decide ((x.op)≤(4:Int))))=true then ((zeH k p0 a4 x).bind fun x11 => some x11) else (if ((decide ((x.op)≥(12:Int)))&&(decide ((x.op)≤(14:Int))))=true then ((zbT k p0 a4 x).bind fun x13 => some x13) else (if ((x.op)==(15:Int))=true then ((zad a4 p0.result).bind fun x15 => ((zbU x15.1).bind fun x17 => some x17)) else (if (((x.op)==(16:Int))||((x.op)==(17:Int)))=true then ((zdt k p0 a4 x).bind fun x19 => some x19) else (if ((x.op)==(26:Int))=true then ((zad a4 255).bind fun x21 => some x21.1) else (if ((x.op)==(27:Int))=true then ((zad a4 127).bind fun x23 => ((zad x23.1 255).bind fun x25 => ((zad x25.1 x25.2).bind fun x27 => ((zaP x27.1 x27.2).bind fun x29 => some x29)))) else (if ((decide ((x.op)≥(32:Int)))&&(decide ((x.op)≤(36:Int))))=true then ((zaK p0 a4 x).bind fun x31 => some x31) else ((zeF k p0 a4 x).bind fun x33 => some x33)))))))))
def stepR' (k:Nat) (e:Env8) (s:St8) (x:Instr):Option St8:=if s.ok=true then stepR k e s x else some s
theorem zwP (k:Nat) (e:Env8) (l:List Instr) {s:St8} (h:s.ok=false):l.foldlM (stepR' k e) s=some s:=by
 induction l with
 | nil => rfl
 | cons x l ih => 
  rw [List.foldlM_cons]
  have:stepR' k e s x=some s:=by unfold stepR'; rw [h]; rfl
  rw [this]; exact ih
theorem zwb (k:Nat) (e:Env8) (s:St8) (l:List Instr) (hk:l.length<k) (hs:l.length<1000000000):zaX (k+1) e s l=l.foldlM (stepR' k e) s:=by
 simp only [zaX]
 rw [Option.bind_fun_some]
 have key:∀ (q i:Nat) (s:St8),i≤l.length→l.length - i<q→lpN q (fun (rec6:St8×Int→Option (St8)) v => match v with | (a4,a5) => (if ((decide (a5<(l.length:Int)))&&a4.ok)=true then (gd (0≤a5∧a5<(l.length:Int)) (stepR k e a4 (l.getD a5.toNat default))).bind (fun j7 => rec6 (j7,(wI (a5+1)))) else some a4)) (s,(i:Int))=(l.drop i).foldlM (stepR' k e) s:=by
  intro q
  induction q with
  | zero => intro i s _ h; omega
  | succ q ih => 
   intro i s h1 h2
   simp only [lpN]
   by_cases h:i<l.length
   ·rw [dropS l i h,List.foldlM_cons]
    by_cases hb:s.ok=true
    ·rw [if_pos (by rw [dltT h,hb]; rfl),zax (by omega)]
     unfold stepR'
     rw [if_pos hb,wI_nat i (by omega)]
     cases stepR k e s (l.getD (i:Int).toNat default) with
     | none => rfl
     | some c' => exact ih (i+1) c' h (by omega)
    ·have hb':s.ok=false:=by simpa using hb
     rw [if_neg (by rw [hb',Bool.and_false]; decide)]
     have:stepR' k e s (l.getD (i:Int).toNat default)=some s:=by unfold stepR'; rw [hb']; rfl
     rw [this]
     exact (zwP k e _ hb').symm
   ·rw [if_neg (by intro hh; rw [Bool.and_eq_true] at hh; exact dltF h hh.1),List.drop_of_length_le (by omega)]
    rfl
 exact key k 0 s (Nat.zero_le _) (by omega)
mutual
def IWI:Instr→Prop
 | .mk op _ al _ _ b e _ => (0≤op∧op<256)∧0≤al∧IWL b∧IWL e
def IWL:List Instr→Prop
 | [] => True
 | x :: l => IWI x∧IWL l
end
theorem zxr {Γ:Ctx} {N P k:Nat} {c:Checker} {s:St8} (o:COk Γ P) (h:Sim Γ N c s) (x:Instr) (hw:IWI x) (hk:P+400<k)
  (g:Gd Γ (N+x.body.length+x.els.length+1)) (hf:Γ.fr.length+1<1000000000) (hl:Γ.lb.length+1<1000000000) (i1:IH Γ N k x.body) (i2:IH Γ N k x.els) :
  StB Γ (N+1) (stepC (k+4) c x) (stepR' (k+4) Γ.env s x):=by
 have gN:Gd Γ N:=g.mono (by omega)
 unfold stepC stepR'
 by_cases hk':s.ok=true
 rotate_left
 ·have hb:s.ok=false:=by simpa using hk'
  rw [if_pos (by rw [h.bad,hb]; rfl),if_neg hk']
  exact ⟨c,s,rfl,rfl,h.mono (by omega)⟩
 rw [if_neg (by rw [h.bad,hk']; decide),if_pos hk']
 have hop:(0≤x.op∧x.op<256)∧0≤x.align:=by
  cases x; simp only [IWI] at hw; exact ⟨hw.1,hw.2.1⟩
 obtain ⟨⟨o1,o2⟩,o3⟩:=hop
 unfold stepR
 simp only [Option.bind_fun_some]
 by_cases q0:x.op=0
 ·rw [if_pos (by rw [q0]; decide),if_pos (by rw [q0]; decide)]
  simp only [zab]
  rw [if_pos (by rw [q0]; decide)]
  obtain ⟨c',s',e1,e2,h'⟩:=zmm gN h
  exact ⟨c',s',by rw [e1]; rfl,e2,h'.mono (by omega)⟩
 by_cases q1:x.op=1
 ·rw [if_pos (by rw [q1]; decide),if_neg (by rw [q1]; decide),if_pos (by rw [q1]; decide)]
  simp only [zab]
  rw [if_neg (by rw [q1]; decide),if_pos (by rw [q1]; decide)]
  exact ⟨c,s,rfl,rfl,h.mono (by omega)⟩
 rw [if_neg (c:=(x.op==(0:Int))=true) (by simpa using q0),if_neg (c:=(x.op==(1:Int))=true) (by simpa using q1)]
 by_cases q2:x.op=2∨x.op=3∨x.op=4
 ·rw [if_pos (by simp; omega),if_pos (by simp; omega)]
  exact zxq o h x q2 g hf hl i1 i2
 rw [if_neg (c:=(decide (x.op≥2)&&decide (x.op≤4))=true) (by simp; omega)]
 by_cases q3:x.op=12
 ·rw [if_pos (by simp; omega),if_pos (by simp; omega)]
  exact zyI gN o h x _ q3
 by_cases q4:x.op=13
 ·rw [if_pos (by simp; omega),if_pos (by simp; omega)]
  exact zxW gN o h x _ q4
 by_cases q5:x.op=14
 ·rw [if_pos (by simp; omega),if_pos (by simp; omega)]
  exact zxo gN o h x _ q5 (by omega) (by omega)
 rw [if_neg (c:=(decide (x.op≥12)&&decide (x.op≤14))=true) (by simp; omega)]
 by_cases q6:x.op=15
 ·rw [if_pos (by simp; omega),if_pos (by simp [q6])]
  have e1:zab (k+4) c x=(zac c c.t.result).bind fun x47 => (zar x47.2).bind fun x49 => some x49:=by
   obtain ⟨op,n,al,of_,res,body,els,labels⟩:=x
   obtain rfl:op=15:=q6
   simp only [zab]; rfl
  rw [e1,h.fld.2.1]
  obtain ⟨v,c',v',s',e3,e4,h',_⟩:=zbY gN h (Vk.of3 o.res)
  have e4':zad s Γ.env.result=some (s',v'):=e4
  rw [e3,e4',Option.bind_some,Option.bind_some]
  obtain ⟨c2,s2,e5,e6,h2⟩:=zmm gN h'
  exact ⟨c2,s2,by rw [e5]; rfl,e6,h2.mono (by omega)⟩
 rw [if_neg (c:=(x.op==(15:Int))=true) (by simpa using q6)]
 by_cases q7:x.op=16
 ·rw [if_pos (by simp; omega),if_pos (by simp [q7])]
  exact (zvz gN o h hk' (by omega) x _).1 q7
 by_cases q8:x.op=17
 ·rw [if_pos (by simp; omega),if_pos (by simp [q8])]
  exact (zvz gN o h hk' (by omega) x _).2 q8
 rw [if_neg (c:=(x.op==(16:Int)||x.op==(17:Int))=true) (by simp [q7,q8])]
 by_cases q9:x.op=26
 ·rw [if_neg (by simp; omega),if_pos (by simp [q9])]
  have e1:zah c x=(zac c 1).bind fun x1 => some x1.2:=by
   unfold zah; rw [if_pos (by simp [q9])]
  rw [e1]
  obtain ⟨v,c',v',s',e3,e4,h',_⟩:=zbY gN h Vk.any
  exact ⟨c',s',by rw [e3]; rfl,by rw [e4]; rfl,h'.mono (by omega)⟩
 rw [if_neg (c:=(x.op==(26:Int))=true) (by simpa using q9)]
 by_cases q10:x.op=27
 ·rw [if_neg (by simp; omega),if_pos (by simp [q10])]
  have e1:zah c x=(zac c 127).bind fun x3 => (zac x3.2 1).bind fun x5 => (zac x5.2 x5.1).bind fun x7 => (zag x7.2 x7.1).bind fun x9 => some x9:=by
   unfold zah; rw [if_neg (by simp [q10]),if_pos (by simp [q10])]
  rw [e1]
  obtain ⟨v,c',v',s',e3,e4,h',_⟩:=zbY gN h (Vk.of2 (x:=127) (.inr rfl))
  rw [e3,e4,Option.bind_some,Option.bind_some]
  obtain ⟨v2,c2,v2',s2,e5,e6,h2,k2⟩:=zbY gN h' Vk.any
  rw [e5,e6,Option.bind_some,Option.bind_some]
  obtain ⟨v3,c3,v3',s3,e7,e8,h3,k3⟩:=zbY gN h2 k2
  rw [e7,e8,Option.bind_some,Option.bind_some]
  obtain ⟨c4,s4,e9,e10,h4⟩:=zmf gN h3 k3
  exact ⟨c4,s4,by rw [e9]; rfl,e10,h4⟩
 rw [if_neg (c:=(x.op==(27:Int))=true) (by simpa using q10)]
 by_cases q11:32≤x.op∧x.op≤36
 ·rw [if_neg (by simp; omega),if_pos (by simp; omega)]
  exact zuV gN o h hk' x q11.1 q11.2
 rw [if_neg (c:=(decide (x.op≥32)&&decide (x.op≤36))=true) (by simp; omega)]
 by_cases q12:x.op<26
 ·rw [if_pos (by simpa using q12)]
  have hB:zab (k+4) c x=some (Checker.mk c.m c.t c.locals c.stack c.frames c.labels c.most true):=by
   simp only [zab]
   have r2:(if (x.op==(2:Int))=true then some (x.op==(2:Int)) else some (x.op==(3:Int)))=some false:=by
    rw [if_neg (by simp; omega)]
    congr 1
    simp; omega
   rw [if_neg (by simp; omega),if_neg (by simp; omega),r2,Option.bind_some,if_neg (by decide),if_neg (by simp; omega),if_neg (by simp; omega),if_neg (by simp; omega),if_neg (by simp; omega),if_neg (by simp; omega),if_neg (by simp; omega),if_neg (by simp; omega)]
  rw [hB]
  obtain ⟨t,is,f,n,bs,S⟩:=zwT x.op o1 o2
  obtain ⟨p,r,r1,_⟩:=S.rsg
  obtain ⟨fe,r2⟩:=S.rfo
  obtain ⟨sg,r3⟩:=S.rby
  have his:is=false:=S.low q12 (by omega) (by omega)
  subst his
  unfold zeF
  rw [r1,r2,r3,Option.bind_some,Option.bind_some,Option.bind_some,if_pos (by rfl)]
  have hb:=h.badV
  rw [setB_true] at hb
  exact StB.ofB ⟨_,rfl,hb.mono (by omega)⟩ ⟨_,rfl,h.badR.mono (by omega)⟩
 ·rw [if_neg (by simpa using q12)]
  have e1:zah c x=(zbi c x).bind fun x37 => some x37:=by
   unfold zah
   rw [if_neg (by simp; omega),if_neg (by simp; omega),if_neg (by simp; omega),if_neg (by simp; omega),if_neg (by simp; omega),if_neg (by simp; omega),if_neg (by simp; omega)]
  rw [e1,Option.bind_fun_some]
  exact zxp gN o h hk' x o1 o2 o3 (by omega)
theorem zxs:∀ (K:Nat) (Γ:Ctx) (N P:Nat) (c:Checker) (s:St8) (L:List Instr),COk Γ P→IWL L→wtL L+P+500≤K→wtL L<1000000000→Gd Γ (N+3 * wtL L)→Γ.fr.length+wtL L<1000000000→Γ.lb.length+wtL L<1000000000→Sim Γ N c s →
  ∃ c' s',zal K c L=some c'∧zaX K Γ.env s L=some s'∧Sim Γ (N+L.length) c' s':=by
 intro K
 induction K using Nat.strongRecOn with
 | _ K ihK => 
 intro Γ N P c s L o hw hK hW g hf hl h
 obtain ⟨k,rfl⟩:∃ k,K=k+4+1:=⟨K - 5,by omega⟩
 have hLn:=wtL_pos L
 rw [zwV (k+4) c L (by omega) (by omega),zwb (k+4) Γ.env s L (by omega) (by omega)]
 have key:∀ (M:List Instr) (N':Nat) (c:Checker) (s:St8),IWL M→wtL M≤wtL L→N'+3 * wtL M≤N+3 * wtL L→Sim Γ N' c s→∃ c' s',M.foldlM (stepC (k+4)) c=some c'∧M.foldlM (stepR' (k+4) Γ.env) s=some s'∧Sim Γ (N'+M.length) c' s':=by
  intro M
  induction M with
  | nil => intro N' c s _ _ _ h; exact ⟨c,s,rfl,rfl,h⟩
  | cons x M ihM => 
   intro N' c s hw hm hn h
   simp only [IWL] at hw
   simp only [wtL] at hm hn
   have hx:=wtI_eq x
   have hbp:=wtL_pos x.body
   have hep:=wtL_pos x.els
   have hMp:=wtL_pos M
   have hwb:IWL x.body∧IWL x.els:=by
    have:=hw.1
    cases x; simp only [IWI] at this; exact this.2.2
   have gun:=g.un
   have gI:∀ (B:List Instr),IWL B→wtL B+4≤wtI x+wtL M→IH Γ N' k B:=by
    intro B hB1 hB2 lab hlab l aw dd c s hll hs
    have:=ihK (k+2) (by omega) (Γ.sub l aw dd lab) 0 P c s B (o.sub l aw dd hlab) hB1 (by omega) (by omega)
     (by
      have g':Gd Γ (l.length+(0+3 * wtL B)):=g.mono (by omega)
      exact g'.sub (N:=0) (by omega) (by omega))
     (by simp only [Ctx.sub,List.length_append,List.length_cons,List.length_nil]; omega)
     (by simp only [Ctx.sub,List.length_append,List.length_cons,List.length_nil]; omega) hs
    rwa [Nat.zero_add] at this
   obtain ⟨c1,s1,e1,e2,h1⟩:=zxr (k:=k) o h x hw.1 (by omega) (g.mono (by omega)) (by omega) (by omega) (gI _ hwb.1 (by omega)) (gI _ hwb.2 (by omega))
   obtain ⟨c2,s2,e3,e4,h2⟩:=ihM (N'+1) c1 s1 hw.2 (by omega) (by omega) h1
   refine ⟨c2,s2,?_,?_,?_⟩
   ·rw [List.foldlM_cons,e1]; exact e3
   ·rw [List.foldlM_cons,e2]; exact e4
   ·rw [List.length_cons,show N'+(M.length+1)=N'+1+M.length by omega]; exact h2
 exact key L N c s hw (Nat.le_refl _) (Nat.le_refl _) h
instance (r:Int):Decidable (K2 r):=by unfold K2; infer_instance
theorem idxK {p:Int→Bool} {f:Int→Option Bool} (hf:∀ x,f x=some (p x)) (l:List Int) (hl:l.length<1000000000):∀ (k i:Nat),i≤l.length→l.length - i<k →
  ∃ j,zas k l f (i:Int)=some j∧decide (j≥0)=(l.drop i).any p:=by
 intro k
 induction k with
 | zero => intro i _ h; omega
 | succ k ih => 
  intro i h1 h2
  simp only [zas]
  by_cases h:i<l.length
  ·rw [if_pos (dltT h),zax (by omega),hf,Option.bind_some,dropS l i h,List.any_cons]
   cases p (l.getD (i:Int).toNat default) with
   | true => exact ⟨(i:Int),by rw [if_pos rfl],by rw [Bool.true_or]; exact decide_eq_true (by omega)⟩
   | false => 
    rw [if_neg (by decide),wI_nat i (by omega),Bool.false_or]
    exact ih (i+1) h (by omega)
  ·rw [if_neg (dltF h),List.drop_of_length_le (by omega)]
   exact ⟨-1,rfl,rfl⟩
theorem containsK {p:Int→Bool} {f:Int→Option Bool} (hf:∀ x,f x=some (p x)) (l:List Int) (hl:l.length<1000000000) (K:Nat) (hK:l.length<K):zat K l f=some (l.any p):=by
 unfold zat zaQ
 obtain ⟨j,h1,h2⟩:=idxK hf l hl K 0 (Nat.zero_le _) (by omega)
 rw [show (0:Int)=((0:Nat):Int) from rfl,h1,Option.bind_some]
 exact congrArg some h2
theorem idxG {p:Glo→Bool} {f:Glo→Option Bool} (hf:∀ x,f x=some (p x)) (l:List Glo) (hl:l.length<1000000000):∀ (k i:Nat),i≤l.length→l.length - i<k →
  ∃ j,zan k l f (i:Int)=some j∧decide (j≥0)=(l.drop i).any p:=by
 intro k
 induction k with
 | zero => intro i _ h; omega
 | succ k ih => 
  intro i h1 h2
  simp only [zan]
  by_cases h:i<l.length
  ·rw [if_pos (dltT h),zax (by omega),hf,Option.bind_some,dropS l i h,List.any_cons]
   cases p (l.getD (i:Int).toNat default) with
   | true => exact ⟨(i:Int),by rw [if_pos rfl],by rw [Bool.true_or]; exact decide_eq_true (by omega)⟩
   | false => 
    rw [if_neg (by decide),wI_nat i (by omega),Bool.false_or]
    exact ih (i+1) h (by omega)
  ·rw [if_neg (dltF h),List.drop_of_length_le (by omega)]
   exact ⟨-1,rfl,rfl⟩
theorem containsG {p:Glo→Bool} {f:Glo→Option Bool} (hf:∀ x,f x=some (p x)) (l:List Glo) (hl:l.length<1000000000) (K:Nat) (hK:l.length<K):zav K l f=some (l.any p):=by
 unfold zav zaI
 obtain ⟨j,h1,h2⟩:=idxG hf l hl K 0 (Nat.zero_le _) (by omega)
 rw [show (0:Int)=((0:Nat):Int) from rfl,h1,Option.bind_some]
 exact congrArg some h2
theorem zvc (x:Int):zbv x=some (!decide (K2 x)):=by
 unfold zbv
 rw [Option.bind_fun_some,zwQ,Option.bind_some]
 by_cases h0:x=0
 ·subst h0; rfl
 ·rw [if_neg (by simpa using h0)]
  have:K3 x↔K2 x:=by unfold K3 K2; omega
  by_cases h:K2 x
  ·rw [decide_eq_true h,decide_eq_true (this.2 h)]
  ·rw [decide_eq_false h,decide_eq_false (fun h' => h (this.1 h'))]
theorem none2_eq (x:Glo):zcu x=some (!decide (K2 x.kind)):=by
 unfold zcu
 rw [zvc,Option.bind_some]
theorem zvf (x:Int):zbk x false=some (decide (K2 x)):=by
 unfold zbk K2
 by_cases h1:x=127
 ·subst h1; rfl
 by_cases h2:x=126
 ·subst h2; rfl
 simp [h1,h2]
theorem kind3_eq (x:Int):zbk x true=some (decide (K3 x)):=by
 unfold zbk K3
 by_cases h1:x=127
 ·subst h1; rfl
 by_cases h2:x=126
 ·subst h2; rfl
 by_cases h3:x=0
 ·subst h3; rfl
 simp [h1,h2,h3]
def kT (t:Typ):Bool:=decide (K3 t.result)&&t.params.all fun x => decide (K2 x)
def kF (f:Fnc):Bool:=f.locals.all fun x => decide (K2 x)
def kG (g:Glo):Bool:=decide (K2 g.kind)
def kindsB (m:Mdl):Bool:=m.types.all kT&&(m.funcs.all kF&&m.globals.all kG)
structure MSz (S:Nat) (m:Mdl):Prop where
 S0:S<1000000000
 types:m.types.length<S
 typ:∀ t∈m.types,t.params.length<S
 funcs:m.funcs.length<S
 fnc:∀ f∈m.funcs,f.locals.length<S
 globals:m.globals.length<S
theorem zvw {α:Type} (p:α→Bool) (l:List α):(l.any fun x => !p x) = !l.all p:=by
 induction l with
 | nil => rfl
 | cons x l ih => rw [List.any_cons,List.all_cons,ih]; cases p x <;> rfl
theorem zwx {S K:Nat} {m:Mdl} (z:MSz S m) (hK:S≤K):∀ (k i:Nat),i≤m.funcs.length→m.funcs.length - i<k→zce k K m (i:Int)=some ((m.funcs.drop i).all kF&&m.globals.all kG):=by
 intro k
 have s1:=z.S0; have s2:=z.funcs; have s3:=z.globals
 induction k with
 | zero => intro i _ h; omega
 | succ k ih => 
  intro i h1 h2
  simp only [zce]
  by_cases h:i<m.funcs.length
  ·have s4:=z.fnc _ (getD_mem m.funcs i h)
   rw [if_pos (dltT h),zax (by omega),containsK zvc _ (by omega) K (by omega),Option.bind_some,dropS m.funcs i h,List.all_cons,zvw]
   show (if (!kF (m.funcs.getD (i:Int).toNat default))=true then _ else _)=_
   cases kF (m.funcs.getD (i:Int).toNat default) with
   | false => rfl
   | true => 
    rw [if_neg (by decide),wI_nat i (by omega),Bool.true_and]
    exact ih (i+1) h (by omega)
  ·rw [if_neg (dltF h),List.drop_of_length_le (by omega),containsG none2_eq _ (by omega) K (by omega),Option.bind_some]
   rw [show (m.globals.any fun x => !decide (K2 x.kind)) = !m.globals.all kG from zvw kG m.globals,Bool.not_not]
   rfl
theorem zwy {S K:Nat} {m:Mdl} (z:MSz S m) (hK:S≤K):∀ (k i:Nat),i≤m.types.length→m.types.length - i<k→zcf k K m (i:Int)=some ((m.types.drop i).all kT&&(m.funcs.all kF&&m.globals.all kG)):=by
 intro k
 have s1:=z.S0; have s2:=z.types; have s3:=z.funcs
 induction k with
 | zero => intro i _ h; omega
 | succ k ih => 
  intro i h1 h2
  simp only [zcf]
  by_cases h:i<m.types.length
  ·have s4:=z.typ _ (getD_mem m.types i h)
   rw [if_pos (dltT h),zax (by omega),zwQ,Option.bind_some,containsK zvc _ (by omega) K (by omega),Option.bind_some,dropS m.types i h,List.all_cons,zvw]
   have e:(if (!decide (K3 (m.types.getD (i:Int).toNat default).result))=true then some true else some (!(m.types.getD (i:Int).toNat default).params.all fun x => decide (K2 x)))=some (!kT (m.types.getD (i:Int).toNat default)):=by
    unfold kT
    cases decide (K3 (m.types.getD (i:Int).toNat default).result) <;> rfl
   refine (congrArg (fun o => Option.bind o _) e).trans ?_
   rw [Option.bind_some]
   cases kT (m.types.getD (i:Int).toNat default) with
   | false => rfl
   | true => 
    rw [if_neg (by decide),wI_nat i (by omega),Bool.true_and]
    exact ih (i+1) h (by omega)
  ·rw [if_neg (dltF h),List.drop_of_length_le (by omega)]
   exact zwx z hK K 0 (Nat.zero_le _) (by omega)
theorem vkinds {S K:Nat} {m:Mdl} (z:MSz S m) (hK:S≤K):zeE K m=some (kindsB m):=by
 have:=z.types
 exact zwy z hK K 0 (Nat.zero_le _) (by omega)
theorem zwK {S:Nat} {m:Mdl} (z:MSz S m) (a:Nat) (ha:a<m.types.length):∀ (k i:Nat) (b:Bool),i≤(m.types.getD (a:Int).toNat default).params.length→(m.types.getD (a:Int).toNat default).params.length - i<k →
  zcW k m (a:Int) b (i:Int)=some (b&&((m.types.getD (a:Int).toNat default).params.drop i).all fun x => decide (K2 x)):=by
 intro k
 have s1:=z.S0; have s4:=z.typ _ (getD_mem m.types a ha)
 induction k with
 | zero => intro i b _ h; omega
 | succ k ih => 
  intro i b h1 h2
  simp only [zcW]
  rw [zax (by omega)]
  by_cases h:i<(m.types.getD (a:Int).toNat default).params.length
  ·rw [if_pos (dltT h),dropS _ i h,List.all_cons]
   have e:(if b=true then gd (0≤(a:Int)∧(a:Int)<(m.types.length:Int)) (gd (0≤(i:Int)∧(i:Int)<((m.types.getD (a:Int).toNat default).params.length:Int)) ((zbk ((m.types.getD (a:Int).toNat default).params.getD (i:Int).toNat default) false).bind fun x55 => some x55)) else some false)=some (b&&decide (K2 ((m.types.getD (a:Int).toNat default).params.getD (i:Int).toNat default))):=by
    rw [zax (by omega),zax (by omega),zvf]
    cases b <;> rfl
   refine (congrArg (fun o => Option.bind o _) e).trans ?_
   rw [Option.bind_some,wI_nat i (by omega),ih (i+1) _ h (by omega),Bool.and_assoc]
  ·rw [if_neg (dltF h),List.drop_of_length_le (by omega)]
   simp
theorem zwL {S K:Nat} {m:Mdl} (z:MSz S m) (hK:S≤K):∀ (k i:Nat) (b:Bool),i≤m.types.length→m.types.length - i<k→zea k K m b (i:Int)=some (b&&(m.types.drop i).all kT):=by
 intro k
 have s1:=z.S0; have s2:=z.types
 induction k with
 | zero => intro i b _ h; omega
 | succ k ih => 
  intro i b h1 h2
  simp only [zea]
  by_cases h:i<m.types.length
  ·have s4:=z.typ _ (getD_mem m.types i h)
   rw [if_pos (dltT h),dropS _ i h,List.all_cons]
   have e:(if b=true then gd (0≤(i:Int)∧(i:Int)<(m.types.length:Int)) ((zbk (m.types.getD (i:Int).toNat default).result true).bind fun x45 => some x45) else some false)=some (b&&decide (K3 (m.types.getD (i:Int).toNat default).result)):=by
    rw [zax (by omega),kind3_eq]
    cases b <;> rfl
   have e2:((if b=true then gd (0≤(i:Int)∧(i:Int)<(m.types.length:Int)) ((zbk (m.types.getD (i:Int).toNat default).result true).bind fun x45 => some x45) else some false).bind fun j47 => zcW K m (i:Int) j47 0)=some (b&&kT (m.types.getD (i:Int).toNat default)):=by
    rw [e,Option.bind_some]
    have:=zwK z i h K 0 (b&&decide (K3 (m.types.getD (i:Int).toNat default).result)) (Nat.zero_le _) (by omega)
    rw [show ((0:Nat):Int)=0 from rfl] at this
    rw [this,List.drop_zero,Bool.and_assoc]; rfl
   refine (congrArg (fun o => Option.bind o _) e2).trans ?_
   rw [Option.bind_some,wI_nat i (by omega),ih (i+1) _ h (by omega),Bool.and_assoc]
  ·rw [if_neg (dltF h),List.drop_of_length_le (by omega)]
   simp
theorem zwM {S:Nat} {m:Mdl} (z:MSz S m) (a:Nat) (ha:a<m.funcs.length):∀ (k i:Nat) (b:Bool),i≤(m.funcs.getD (a:Int).toNat default).locals.length→(m.funcs.getD (a:Int).toNat default).locals.length - i<k →
  zeb k m (a:Int) b (i:Int)=some (b&&((m.funcs.getD (a:Int).toNat default).locals.drop i).all fun x => decide (K2 x)):=by
 intro k
 have s1:=z.S0; have s4:=z.fnc _ (getD_mem m.funcs a ha)
 induction k with
 | zero => intro i b _ h; omega
 | succ k ih => 
  intro i b h1 h2
  simp only [zeb]
  rw [zax (by omega)]
  by_cases h:i<(m.funcs.getD (a:Int).toNat default).locals.length
  ·rw [if_pos (dltT h),dropS _ i h,List.all_cons]
   have e:(if b=true then gd (0≤(a:Int)∧(a:Int)<(m.funcs.length:Int)) (gd (0≤(i:Int)∧(i:Int)<((m.funcs.getD (a:Int).toNat default).locals.length:Int)) ((zbk ((m.funcs.getD (a:Int).toNat default).locals.getD (i:Int).toNat default) false).bind fun x55 => some x55)) else some false)=some (b&&decide (K2 ((m.funcs.getD (a:Int).toNat default).locals.getD (i:Int).toNat default))):=by
    rw [zax (by omega),zax (by omega),zvf]
    cases b <;> rfl
   refine (congrArg (fun o => Option.bind o _) e).trans ?_
   rw [Option.bind_some,wI_nat i (by omega),ih (i+1) _ h (by omega),Bool.and_assoc]
  ·rw [if_neg (dltF h),List.drop_of_length_le (by omega)]
   simp
theorem zwN {S K:Nat} {m:Mdl} (z:MSz S m) (hK:S≤K):∀ (k i:Nat) (b:Bool),i≤m.funcs.length→m.funcs.length - i<k→zec k K m b (i:Int)=some (b&&(m.funcs.drop i).all kF):=by
 intro k
 have s1:=z.S0; have s2:=z.funcs
 induction k with
 | zero => intro i b _ h; omega
 | succ k ih => 
  intro i b h1 h2
  simp only [zec]
  by_cases h:i<m.funcs.length
  ·have s4:=z.fnc _ (getD_mem m.funcs i h)
   have:=zwM z i h K 0 b (Nat.zero_le _) (by omega)
   rw [show ((0:Nat):Int)=0 from rfl] at this
   rw [if_pos (dltT h),dropS _ i h,List.all_cons,this,Option.bind_some,wI_nat i (by omega),ih (i+1) _ h (by omega),Bool.and_assoc,List.drop_zero]
   rfl
  ·rw [if_neg (dltF h),List.drop_of_length_le (by omega)]
   simp
theorem zwO {S:Nat} {m:Mdl} (z:MSz S m):∀ (k i:Nat) (b:Bool),i≤m.globals.length→m.globals.length - i<k→zed k m b (i:Int)=some (b&&(m.globals.drop i).all kG):=by
 intro k
 have s1:=z.S0; have s2:=z.globals
 induction k with
 | zero => intro i b _ h; omega
 | succ k ih => 
  intro i b h1 h2
  simp only [zed]
  by_cases h:i<m.globals.length
  ·rw [if_pos (dltT h),dropS _ i h,List.all_cons]
   have e:(if b=true then gd (0≤(i:Int)∧(i:Int)<(m.globals.length:Int)) ((zbk (m.globals.getD (i:Int).toNat default).kind false).bind fun x45 => some x45) else some false)=some (b&&kG (m.globals.getD (i:Int).toNat default)):=by
    rw [zax (by omega),zvf]
    cases b <;> rfl
   refine (congrArg (fun o => Option.bind o _) e).trans ?_
   rw [Option.bind_some,wI_nat i (by omega),ih (i+1) _ h (by omega),Bool.and_assoc]
  ·rw [if_neg (dltF h),List.drop_of_length_le (by omega)]
   simp
theorem rkinds {S K:Nat} {m:Mdl} (z:MSz S m) (hK:S≤K):zix K m=some (kindsB m):=by
 have s2:=z.types; have s3:=z.funcs; have s4:=z.globals
 unfold zix
 have e3:=zwL z hK K 0 true (Nat.zero_le _) (by omega)
 have e1:=zwN z hK K 0 (true&&(m.types.drop 0).all kT) (Nat.zero_le _) (by omega)
 have e0:=zwO z K 0 ((true&&(m.types.drop 0).all kT)&&(m.funcs.drop 0).all kF) (Nat.zero_le _) (by omega)
 rw [show ((0:Nat):Int)=0 from rfl] at e3 e1 e0
 rw [e3,Option.bind_some,e1,Option.bind_some,e0,Option.bind_some]
 simp only [List.drop_zero,Bool.true_and,kindsB,Bool.and_assoc]
theorem concat2 (K:Nat) (hK:3≤K) (a b:List Int) (ha:a.length<1000000000) (hb:b.length<1000000000):zaL K [a,b]=some (a++b):=by
 obtain ⟨k,rfl⟩:∃ k,K=k+3:=⟨K - 3,by omega⟩
 have w0:wI (0+1)=1:=by decide
 have w1:wI (1+1)=2:=by decide
 have q1:wI (0+(a.length:Int))=(a.length:Int):=by rw [wI_small (by omega) (by omega)]; omega
 have q2:wI ((a.length:Int)+(b.length:Int))=(a.length:Int)+(b.length:Int):=wI_small (by omega) (by omega)
 have l1:zaz (k+3) [a,b] 0 0=some ((a.length:Int)+(b.length:Int)):=by
  simp only [zaz]
  show (if decide ((0:Int)<2)=true then (gd (0≤(0:Int)∧(0:Int)<2) (if decide (wI (0+(a.length:Int))<0)=true then none else some ())).bind _ else _)=_
  rw [if_pos (by decide),zax (by decide),q1,if_neg (by simp <;> omega),Option.bind_some,w0]
  show (if decide ((1:Int)<2)=true then (gd (0≤(1:Int)∧(1:Int)<2) (if decide (wI (wI (0+(a.length:Int))+(b.length:Int))<0)=true then none else some ())).bind _ else _)=_
  rw [if_pos (by decide),zax (by decide),q1,q2,if_neg (by simp <;> omega),Option.bind_some,w1]
  show (if decide ((2:Int)<2)=true then _ else some (wI (wI (0+(a.length:Int))+(b.length:Int))))=_
  rw [if_neg (by decide),q1,q2]
 have l0:zaA (k+3) [a,b] [] 0=some (a++b):=by
  simp only [zaA]
  show (if decide ((0:Int)<2)=true then (gd (0≤(0:Int)∧(0:Int)<2) (gd ((0+a.length) * 1≤140737488355328) _)) else _)=_
  rw [if_pos (by decide),zax (by decide),zax (by omega),w0]
  show (if decide ((1:Int)<2)=true then (gd (0≤(1:Int)∧(1:Int)<2) (gd ((a.length+b.length) * 1≤140737488355328) _)) else _)=_
  rw [if_pos (by decide),zax (by decide),zax (by omega),w1]
  rfl
 unfold zaL
 rw [l1,Option.bind_some,zax (by omega),l0]
 rfl
theorem zxd {S K:Nat} {m:Mdl} (z:MSz S m) (f:Int) (hI:∀ fn∈m.funcs,IWL fn.body∧wtL fn.body+S+600≤K∧0≤fn.type_) (hK:S+600≤K) (hK2:K<1000000000) :
  ∃ e mo,zeY K m f=some e∧zlW K m f=some (mo,e)∧zkl K m f=some (e.getD 0,mo)∧(e=none∨e=some 1∨e=some 7):=by
 have s1:=z.S0; have s2:=z.types; have s3:=z.funcs
 have main:∃ (c:Option Checker) (e:Option Int) (mo:Int),zds K m f=some (c,e)∧(((e=some 1∨e=some 7)∧mo=0)∨(e=none∧∃ c',c=some c'∧c'.most=mo))∧zkl K m f=some (e.getD 0,mo):=by
  unfold zds zkl
  rw [vkinds z (by omega),rkinds z (by omega),Option.bind_some]
  by_cases hf:inb f m.funcs.length
  rotate_left
  ·have:(if (decide (f<(0:Int)))=true then some true else (if (decide (f≥(m.funcs.length:Int)))=true then some true else gd (0≤f∧f<(m.funcs.length:Int)) (if (decide (((m.funcs.getD f.toNat default).type_)≥(IntKind.wrap .u32 (m.types.length:Int))))=true then some true else some (!kindsB m))))=some true:=by
    by_cases h0:f<0
    ·rw [if_pos (by simpa using h0)]
    ·rw [if_neg (by simpa using h0),if_pos (by unfold inb at hf; simp; omega)]
   rw [this,Option.bind_some,Option.bind_some,if_pos rfl,if_pos rfl]
   exact ⟨none,some 1,0,rfl,.inl ⟨.inl rfl,rfl⟩,rfl⟩
  have hf':=hf
  unfold inb at hf'
  have hm:=getD_memI hf
  obtain ⟨hw,hwt,hty⟩:=hI _ hm
  have s5:=z.fnc _ hm
  have eu:IntKind.wrap .u32 (m.types.length:Int)=(m.types.length:Int):=by rw [IntKind.wrap_u32]; omega
  rw [if_neg (by simp; omega),if_neg (by simp; omega),gdI hf,eu]
  by_cases ht:(m.funcs.getD f.toNat default).type_≥(m.types.length:Int)
  ·rw [if_pos (by simpa using ht),Option.bind_some,Option.bind_some,if_pos rfl,if_pos rfl]
   exact ⟨none,some 1,0,rfl,.inl ⟨.inl rfl,rfl⟩,rfl⟩
  rw [if_neg (by simpa using ht),Option.bind_some,Option.bind_some]
  cases hk:kindsB m with
  | false => 
   rw [if_pos (by rfl),if_pos (by rfl)]
   exact ⟨none,some 1,0,rfl,.inl ⟨.inl rfl,rfl⟩,rfl⟩
  | true => 
  rw [if_neg (by decide),if_neg (by decide)]
  by_cases ht0:0≤(m.funcs.getD f.toNat default).type_
  rotate_left
  ·exact absurd hty ht0
  have hti:inb (m.funcs.getD f.toNat default).type_ m.types.length:=⟨ht0,by omega⟩
  have hmt:=getD_memI hti
  have s6:=z.typ _ hmt
  unfold kindsB at hk
  simp only [Bool.and_eq_true,List.all_eq_true] at hk
  obtain ⟨k1,k2,k3⟩:=hk
  have kt:∀ t∈m.types,TOk (S+10) t:=fun t h => by
   have:=k1 t h
   unfold kT at this
   simp only [Bool.and_eq_true,List.all_eq_true,decide_eq_true_eq] at this
   exact ⟨this.2,this.1,by have:=z.typ t h; omega⟩
  have o:COk (Ctx.mk m (m.types.getD (m.funcs.getD f.toNat default).type_.toNat default) ((m.types.getD (m.funcs.getD f.toNat default).type_.toNat default).params++(m.funcs.getD f.toNat default).locals) [] [] [(m.types.getD (m.funcs.getD f.toNat default).type_.toNat default).result]) (S+10):=
   ⟨kt,fun g h => by have:=k3 g h; unfold kG at this; exact of_decide_eq_true this,fun x hx => by
    rcases List.mem_append.1 hx with hx | hx
    ·exact (kt _ hmt).1 x hx
    ·have:=k2 _ hm
     unfold kF at this
     rw [List.all_eq_true] at this
     exact of_decide_eq_true (this x hx),fun x hx => by
    obtain rfl:x=(m.types.getD (m.funcs.getD f.toNat default).type_.toNat default).result:=by simpa using hx
    exact (kt _ hmt).2.1,(kt _ hmt).2.1,by omega,by omega⟩
  have hwl:=wtL_pos (m.funcs.getD f.toNat default).body
  have s0:Sim (Ctx.mk m (m.types.getD (m.funcs.getD f.toNat default).type_.toNat default) ((m.types.getD (m.funcs.getD f.toNat default).type_.toNat default).params++(m.funcs.getD f.toNat default).locals) [] [] [(m.types.getD (m.funcs.getD f.toNat default).type_.toNat default).result]) 0
    (Checker.mk m (m.types.getD (m.funcs.getD f.toNat default).type_.toNat default) ((m.types.getD (m.funcs.getD f.toNat default).type_.toNat default).params++(m.funcs.getD f.toNat default).locals) [] [Frame.mk 0 false false] [(m.types.getD (m.funcs.getD f.toNat default).type_.toNat default).result] 0 false) (St8.mk [] 0 false false 0 true):=
   .inl ⟨[],false,false,0,(fun x hx => by cases hx),Nat.le_refl 0,rfl,rfl⟩
  have gg:∀ N,N<999999999999→Gd (Ctx.mk m (m.types.getD (m.funcs.getD f.toNat default).type_.toNat default) ((m.types.getD (m.funcs.getD f.toNat default).type_.toNat default).params++(m.funcs.getD f.toNat default).locals) [] [] [(m.types.getD (m.funcs.getD f.toNat default).type_.toNat default).result]) N:=fun N h => 
   ⟨by show 0+N<_; omega,(by decide:0<1000000000),(by decide:1<1000000000)⟩
  obtain ⟨c1,r1,e1,e2,h1⟩:=zxs K _ 0 (S+10) _ _ (m.funcs.getD f.toNat default).body o hw (by omega) (by omega) (gg _ (by omega)) (by show 0+_<_; omega) (by show 1+_<_; omega) s0
  obtain ⟨v,c2,v',r2,e3,e4,h2,_⟩:=zbY (gg _ (by omega)) h1 (Vk.of3 (kt _ hmt).2.1)
  have e2':zaX K (Env8.mk m (m.types.getD (m.funcs.getD f.toNat default).type_.toNat default).result ((m.types.getD (m.funcs.getD f.toNat default).type_.toNat default).params++(m.funcs.getD f.toNat default).locals) [(m.types.getD (m.funcs.getD f.toNat default).type_.toNat default).result]) (St8.mk [] 0 false false 0 true) (m.funcs.getD f.toNat default).body=some r1:=e2
  rw [gdI hf,gdI hti,gdI hf,concat2 K (by omega) _ _ (by omega) (by omega),Option.bind_some,gdI hf,e1,Option.bind_some,e3,Option.bind_some]
  rw [gdI hf,gdI hti,zax (by omega),gdI hf,zax (by omega),gdI hf,e2',Option.bind_some,e4,Option.bind_some]
  rcases h2 with ⟨l,aw,dd,mo,q1,q2,rfl,rfl⟩ | ⟨⟨l,aw,dd,mo,q1,rfl⟩,q2,q3⟩
  ·by_cases hl:l.length=0
   ·have:l=[]:=List.length_eq_zero_iff.1 hl
    subst this
    exact ⟨_,none,mo,rfl,.inr ⟨rfl,_,rfl,rfl⟩,rfl⟩
   ·refine ⟨none,some 7,0,?_,.inl ⟨.inr rfl,rfl⟩,?_⟩
    ·rw [if_pos ?_]
     show (false||decide ((([]++l.map fk:List Int).length:Int)>0))=true
     rw [Bool.false_or]
     exact decide_eq_true (by simp; omega)
    ·rw [if_pos ?_]; rfl
     show (false||decide ((l.length:Int)>0))=true
     rw [Bool.false_or]
     exact decide_eq_true (by omega)
  ·refine ⟨none,some 7,0,by rw [if_pos (by rfl)],.inl ⟨.inr rfl,rfl⟩,?_⟩
   rw [if_pos (by rw [q2]; rfl)]; rfl
 obtain ⟨c,e,mo,h1,h2,h3⟩:=main
 refine ⟨e,mo,?_,?_,h3,?_⟩
 ·unfold zeY
  rw [h1]; rfl
 ·unfold zlW
  rw [h1,Option.bind_some]
  rcases h2 with ⟨rfl | rfl,rfl⟩ | ⟨rfl,c',rfl,rfl⟩ <;> rfl
 ·rcases h2 with ⟨h,_⟩ | ⟨h,_⟩
  ·exact .inr h
  ·exact .inl h
theorem zvQ:∀ (K:Nat) (l:List Instr) (p1 p2:Int),wtL l<K→wtL l<1000000000→∃ v,zaD K l p1 p2=some v:=by
 intro K
 induction K with
 | zero => intro l _ _ h; omega
 | succ k ih => 
  intro l p1 p2 h hs
  have hw:=wtL_pos l
  simp only [zaD]
  rw [Option.bind_fun_some]
  split
  ·exact ⟨_,rfl⟩
  have key:∀ (q i:Nat) (n:Int),i≤l.length→l.length - i<q→∃ v,lpN q (fun (rec6:Int×Int→Option (Int)) v => match v with | (a4,a5) => (if ((decide (a5<(l.length:Int)))&&(decide (a4<p1)))=true then gd (0≤a5∧a5<(l.length:Int)) (gd (0≤a5∧a5<(l.length:Int)) ((zaD k ((l.getD a5.toNat default).body) p1 (wI (p2+1))).bind fun x9 => gd (0≤a5∧a5<(l.length:Int)) ((zaD k ((l.getD a5.toNat default).els) p1 (wI (p2+1))).bind fun x12 => rec6 ((wI ((wI ((wI (a4+(mnI (((l.getD a5.toNat default).labels).length:Int) p1)))+x9))+x12)),(wI (a5+1)))))) else some a4)) (n,(i:Int))=some v:=by
   intro q
   induction q with
   | zero => intro i n _ h; omega
   | succ q ihq => 
    intro i n h1 h2
    simp only [lpN]
    by_cases h:i<l.length
    ·by_cases hn:n<p1
     ·have hm:=getD_mem l i h
      have hx:=wtL_mem hm
      rw [wtI_eq] at hx
      rw [if_pos (by rw [dltT h,decide_eq_true hn]; rfl),zax (by omega),zax (by omega)]
      obtain ⟨v1,e1⟩:=ih (l.getD (i:Int).toNat default).body p1 (wI (p2+1)) (by omega) (by omega)
      obtain ⟨v2,e2⟩:=ih (l.getD (i:Int).toNat default).els p1 (wI (p2+1)) (by omega) (by omega)
      rw [e1,Option.bind_some,zax (by omega),e2,Option.bind_some,wI_nat i (by omega)]
      exact ihq (i+1) _ h (by omega)
     ·rw [if_neg (by rw [decide_eq_false hn,Bool.and_false]; decide)]
      exact ⟨_,rfl⟩
    ·rw [if_neg (by rw [Bool.and_eq_true]; intro hh; exact dltF h hh.1)]
     exact ⟨_,rfl⟩
  exact key k 0 _ (Nat.zero_le _) (by omega)
theorem zyV {K:Nat} {m:Mdl} (o:GvOk K m):∀ k (i:Nat) (n:Int),i≤m.types.length→m.types.length - i<k→∃ v,zbz k m n (i:Int)=some v:=by
 intro k
 have:=o.K0; have:=o.types
 induction k with
 | zero => intro i _ _ h; omega
 | succ k ih => 
  intro i n h1 h2
  simp only [zbz]
  by_cases h:i<m.types.length
  ·rw [if_pos (dltT h),zax (by omega),wI_nat i (by omega)]
   exact ih (i+1) _ h (by omega)
  ·rw [if_neg (dltF h)]; exact ⟨_,rfl⟩
theorem zyW {K:Nat} {m:Mdl} (o:GvOk K m):∀ k (i:Nat) (n:Int),i≤m.funcs.length→m.funcs.length - i<k→∃ v,zbA k K m n (i:Int)=some v:=by
 intro k
 have:=o.K0; have:=o.funcs
 induction k with
 | zero => intro i _ _ h; omega
 | succ k ih => 
  intro i n h1 h2
  simp only [zbA]
  by_cases h:i<m.funcs.length
  ·have hf:=(o.fnc _ (getD_mem m.funcs i h)).2
   obtain ⟨v,e⟩:=zvQ K (m.funcs.getD (i:Int).toNat default).body 3000 0 hf (by omega)
   rw [if_pos (dltT h),zax (by omega),zax (by omega),e,Option.bind_some,wI_nat i (by omega)]
   exact ih (i+1) _ h (by omega)
  ·rw [if_neg (dltF h)]; exact ⟨_,rfl⟩
theorem zyX {K:Nat} {m:Mdl} (o:GvOk K m):∀ k (i:Nat) (n:Int),i≤m.exports.length→m.exports.length - i<k→∃ v,zbB k m n (i:Int)=some v:=by
 intro k
 have:=o.K0; have:=o.exports
 induction k with
 | zero => intro i _ _ h; omega
 | succ k ih => 
  intro i n h1 h2
  simp only [zbB]
  by_cases h:i<m.exports.length
  ·rw [if_pos (dltT h),zax (by omega),wI_nat i (by omega)]
   exact ih (i+1) _ h (by omega)
  ·rw [if_neg (dltF h)]; exact ⟨_,rfl⟩
theorem wt1 (x:Instr):wtL [x]=wtI x+1:=by simp [wtL]
theorem zyY {K:Nat} {m:Mdl} (o:GvOk K m):∀ k (i:Nat) (n:Int),i≤m.elems.length→m.elems.length - i<k→∃ v,zbC k K m n (i:Int)=some v:=by
 intro k
 have:=o.K0; have:=o.elems
 induction k with
 | zero => intro i _ _ h; omega
 | succ k ih => 
  intro i n h1 h2
  simp only [zbC]
  by_cases h:i<m.elems.length
  ·have hf:=o.ele _ (getD_mem m.elems i h)
   obtain ⟨v,e⟩:=zvQ K [(m.elems.getD (i:Int).toNat default).offset] 3000 0 (by rw [wt1]; omega) (by rw [wt1]; omega)
   rw [if_pos (dltT h),zax (by omega),zax (by omega),e,Option.bind_some,wI_nat i (by omega)]
   exact ih (i+1) _ h (by omega)
  ·rw [if_neg (dltF h)]; exact ⟨_,rfl⟩
theorem zyZ {K:Nat} {m:Mdl} (o:GvOk K m):∀ k (i:Nat) (n:Int),i≤m.datas.length→m.datas.length - i<k→∃ v,zbD k K m n (i:Int)=some v:=by
 intro k
 have:=o.K0; have:=o.datas
 induction k with
 | zero => intro i _ _ h; omega
 | succ k ih => 
  intro i n h1 h2
  simp only [zbD]
  by_cases h:i<m.datas.length
  ·have hf:=o.dat _ (getD_mem m.datas i h)
   obtain ⟨v,e⟩:=zvQ K [(m.datas.getD (i:Int).toNat default).offset] 3000 0 (by rw [wt1]; omega) (by rw [wt1]; omega)
   rw [if_pos (dltT h),zax (by omega),zax (by omega),e,Option.bind_some,wI_nat i (by omega)]
   exact ih (i+1) _ h (by omega)
  ·rw [if_neg (dltF h)]; exact ⟨_,rfl⟩
theorem zza {K:Nat} {m:Mdl} (o:GvOk K m):∀ k (i:Nat) (n:Int),i≤m.globals.length→m.globals.length - i<k→∃ v,zbE k K m n (i:Int)=some v:=by
 intro k
 have:=o.K0; have:=o.globals
 induction k with
 | zero => intro i _ _ h; omega
 | succ k ih => 
  intro i n h1 h2
  simp only [zbE]
  by_cases h:i<m.globals.length
  ·have hf:=o.glo _ (getD_mem m.globals i h)
   obtain ⟨v,e⟩:=zvQ K [(m.globals.getD (i:Int).toNat default).init_] 3000 0 (by rw [wt1]; omega) (by rw [wt1]; omega)
   rw [if_pos (dltT h),zax (by omega),e,Option.bind_some,wI_nat i (by omega)]
   exact ih (i+1) _ h (by omega)
  ·rw [if_neg (dltF h)]; exact ⟨_,rfl⟩
theorem zyD {K:Nat} {m:Mdl} (o:GvOk K m):∃ b,zcw K m=some b:=by
 unfold zcw
 split
 ·exact ⟨_,rfl⟩
 obtain ⟨v5,e5⟩:=zyV o K 0 0 (Nat.zero_le _) (by have:=o.types; omega)
 obtain ⟨v4,e4⟩:=zyW o K 0 v5 (Nat.zero_le _) (by have:=o.funcs; omega)
 obtain ⟨v3,e3⟩:=zyX o K 0 v4 (Nat.zero_le _) (by have:=o.exports; omega)
 obtain ⟨v2,e2⟩:=zyY o K 0 v3 (Nat.zero_le _) (by have:=o.elems; omega)
 obtain ⟨v1,e1⟩:=zyZ o K 0 v2 (Nat.zero_le _) (by have:=o.datas; omega)
 obtain ⟨v0,e0⟩:=zza o K 0 v1 (Nat.zero_le _) (by have:=o.globals; omega)
 rw [show ((0:Nat):Int)=0 from rfl] at e5 e4 e3 e2 e1 e0
 rw [e5,Option.bind_some,e4,Option.bind_some,e3,Option.bind_some,e2,Option.bind_some,e1,Option.bind_some,e0,Option.bind_some]
 exact ⟨_,rfl⟩
section
variable {E:Env} {W:Nat→Nat→Nat→Prop} {dr:Bool} {base:Nat} {r:List AOper} {K:St→Prop} {t:Nat→AV} {h:Hp} {n:Nat} {d:Option Nat}
theorem AWL_mkmap {k c:Nat}:AWL E false base W (⟨d,.x (.mkmap k c),none⟩ :: r) K ⟨t,h,n⟩↔AWL E false base W r K ⟨putT d t (.map (base+k)),upd h (base+k) (some (.mp [])),n⟩:=by
 simp [AWL,AW1,wantA,aval,xval,rdOk,ex2]
theorem AWL_mlook {c:Nat} {z:AV} {m key:AX}:AWL E dr base W (⟨d,.x (.mlook c z m key),none⟩ :: r) K ⟨t,h,n⟩↔∃ v h',xval base t h (.mlook c z m key)=some (v,h')∧AWL E dr base W r K ⟨putT d t v,h',n⟩:=by
 simp [AWL,AW1,wantA,aval,rdOk]
theorem AWL_mset {c:Nat} {m key v:AX}:AWL E false base W (⟨d,.x (.mset c m key v),none⟩ :: r) K ⟨t,h,n⟩↔∃ v' h',xval base t h (.mset c m key v)=some (v',h')∧AWL E false base W r K ⟨putT d t v',h',n⟩:=by
 simp [AWL,AW1,wantA,aval,rdOk]
theorem AWL_iaddrA {c len esz:Nat} {a i:AX}:AWL E dr base W (⟨d,.iaddrA c len esz a i,none⟩ :: r) K ⟨t,h,n⟩↔∃ v h',aval base t h (.iaddrA c len esz a i)=some (v,h')∧AWL E dr base W r K ⟨putT d t v,h',n⟩:=by
 simp [AWL,AW1,wantA,rdOk]
end
def xpA (e:Xpo):List AV:=[.str e.name,.int .u8 e.what,.int .u32 e.index]
def many4 (fu tb me gl:Nat):List Int:=[(fu:Int),(tb:Int),(me:Int),(gl:Int)]
def xpOk (q:List Int) (seen:List ByteArray) (e:Xpo):Bool:=!(decide (e.what>3)||decide (IntKind.wrap .i64 e.index≥q.getD e.what.toNat 0)||seen.any fun s => s==e.name)
def xpAll (q:List Int):List ByteArray→List Xpo→Bool
 | _,[] => true
 | seen,e :: l => xpOk q seen e&&xpAll q (seen++[e.name]) l
theorem baq (a b:ByteArray):(a==b)=decide (a=b):=by
 rcases a with ⟨a⟩
 rcases b with ⟨b⟩
 show (a==b)=_
 by_cases h:a=b
 ·subst h; simp
 ·rw [decide_eq_false (by simpa using h)]; simpa using h
theorem ztg (s:ByteArray) (v:AV):∀ (l:List ByteArray) (i:Nat),(∃ j,j<l.length∧l.getD j ⟨#[]⟩=s∧mfind s (l.map fun x => (AV.str x,v)) i=some (some (i+j,v))∧(l.any fun x => x==s)=true)∨(mfind s (l.map fun x => (AV.str x,v)) i=some none∧(l.any fun x => x==s)=false)
 | [],i => .inr ⟨rfl,rfl⟩
 | x :: l,i => by
  simp only [List.map_cons,mfind,List.any_cons]
  by_cases hx:s=x
  ·left
   refine ⟨0,by simp,hx.symm,?_,?_⟩
   ·rw [if_pos (by rw [baq]; exact decide_eq_true hx)]; rfl
   ·have:(x==s)=true:=by rw [baq]; exact decide_eq_true hx.symm
    rw [this]; rfl
  ·rw [if_neg (by rw [baq]; simpa using hx)]
   have hxs:(x==s)=false:=by rw [baq]; exact decide_eq_false (Ne.symm hx)
   rw [hxs,Bool.false_or]
   rcases ztg s v l (i+1) with ⟨j,h1,h2,h3,h4⟩ | h
   ·exact .inl ⟨j+1,by simpa using h1,by simpa using h2,by rw [h3]; congr 2; congr 1; omega,h4⟩
   ·exact .inr h
theorem zut (s:ByteArray) (v w:AV):∀ (es:List (AV×AV)) (i j:Nat),mfind s es i=some (some (i+j,v))→mfind s (es.set j (.str s,w)) i=some (some (i+j,w))
 | [],i,j,h => by cases h
 | (k,u) :: es,i,j,h => by
  cases k with
  | str k => 
   simp only [mfind] at h
   by_cases hk:(s==k)=true
   ·rw [if_pos hk] at h
    simp only [Option.some.injEq,Prod.mk.injEq] at h
    have:j=0:=by omega
    subst this
    simp only [List.set_cons_zero,mfind]
    rw [if_pos (by rw [baq]; simp)]
    rfl
   ·rw [if_neg hk] at h
    cases j with
    | zero => 
     exfalso
     have:∀ (es:List (AV×AV)) (i q:Nat) (v:AV),mfind s es i=some (some (q,v))→i≤q:=by
      intro es
      induction es with
      | nil => intro i q v h; cases h
      | cons e es ih => 
       intro i q v h
       obtain ⟨k,u⟩:=e
       cases k <;> simp only [mfind] at h <;> try (cases h)
       split at h
       ·simp only [Option.some.injEq,Prod.mk.injEq] at h; omega
       ·have:=ih _ _ _ h; omega
     have:=this es (i+1) (i+0) v h
     omega
    | succ j => 
     simp only [List.set_cons_succ,mfind]
     rw [if_neg hk]
     have:=zut s v w es (i+1) j (by rw [h]; congr 2; congr 1; omega)
     rw [this]; congr 2; congr 1; omega
  | _ => simp only [mfind] at h; cases h
theorem zuu (s:ByteArray) (w:AV):∀ (es:List (AV×AV)) (i:Nat),mfind s es i=some none→mfind s (es++[(.str s,w)]) i=some (some (i+es.length,w))
 | [],i,h => by
  simp only [List.nil_append,mfind]
  rw [if_pos (by rw [baq]; simp)]
  rfl
 | (k,u) :: es,i,h => by
  cases k with
  | str k => 
   simp only [mfind] at h
   by_cases hk:(s==k)=true
   ·rw [if_pos hk] at h; cases h
   ·rw [if_neg hk] at h
    simp only [List.cons_append,mfind]
    rw [if_neg hk,zuu s w es (i+1) h]
    congr 2; congr 1; simp only [List.length_cons]; omega
  | _ => simp only [mfind] at h; cases h
abbrev W06:Nat→Nat→Nat→Prop:=fun _ _ _ => False
set_option maxHeartbeats 4000000 in
theorem zvr (a0 a6 a7:AV) (fu tb me gl:List (List AV)) (ex:List Xpo) (hex:ex.length<1000000000) (hw:∀ e∈ex,0≤e.what) (hst:sto a0=true∧sto a6=true∧sto a7=true) :
  ACallP E 36 [.agg [a0,.slv fu,.slv tb,.slv me,.slv gl,.slv (ex.map xpA),a6,a7]] (.bool (xpAll (many4 fu.length tb.length me.length gl.length) [] ex)):=by
 refine ztJ (A:=zee) zhv ?_
 unfold zee
 dsimp only
 unfold zfg
 refine AW.rs W06 fun K hK => ?_
 simp only [o_,p_,b156_,AWL_box,AWL_asg,AWL_nil,evX,putT,prune,List.map_cons,List.map_nil,upd,argT,if_true,if_false]
 refine ⟨⟨by simp [cellsL],by simp [sto]⟩,?_⟩
 refine hK _ ?_
 unfold zfv
 refine AW.rs W06 fun K hK => ?_
 simp [o_,p_,b156_,AWL_faddr,AWL_load,AWL_len,AWL_build,AWL_alloc,AWL_store,AWL_asg,AWL_nil,evX,putT,prune,upd,tm,aload,pcells,mkV,cellsL]
 refine ⟨[.int .i64 fu.length,.int .i64 tb.length,.int .i64 me.length,.int .i64 gl.length],by simp [afill,splice,sto,cellOk,cellsL],?_⟩
 refine ⟨_,by simp [astore,upd,cellsL,sto]; rfl,?_⟩
 refine hK _ ?_
 unfold zfw
 refine AW.rs W06 fun K hK => ?_
 simp only [o_,p_,b156_,AWL_mkmap,AWL_asg,AWL_nil,evX,putT,prune,upd,tm]
 refine hK _ ?_
 unfold zfx
 refine AW.seq (AW.seq (AW.reg W06 ?_))
 simp [o_,p_,b156_,AWL_faddr,AWL_load,AWL_len,AWL_mov,AWL_nil,evX,putT,prune,upd,tm,aload,pcells,mkV,cellsL]
 refine AW.block (AW.loop (fun k s => ∃ (i:Nat) (seen:List ByteArray),i+k=ex.length∧s.t=tm [(3,.ptr 1 0 0),(4,.map 2),(22,.slv (ex.map xpA)),(23,.int .i64 ex.length),(24,.int .i64 i)] ∧
   s.h 1=some (.row false 4 [[.int .i64 fu.length,.int .i64 tb.length,.int .i64 me.length,.int .i64 gl.length]])∧s.h 2=some (.mp (seen.map fun x => (.str x,.int .i64 1)))∧3≤s.n ∧
   xpAll (many4 fu.length tb.length me.length gl.length) seen (ex.drop i)=xpAll (many4 fu.length tb.length me.length gl.length) [] ex) ?_ ex.length _ ?_)
 rotate_left
 ·refine ⟨0,[],by simp,?_,?_,?_,Nat.le_refl _,rfl⟩
  ·funext x
   simp [tm]
  ·simp [upd,splice]
  ·simp [upd]
 rintro k s ⟨i,seen,hik,ht,h1,h2,hn,hall⟩
 obtain ⟨t,h,n⟩:=s
 simp only at ht h1 h2 hn
 subst ht
 unfold zfy
 refine AW.rs W06 fun K hK => ?_
 simp [o_,p_,b156_,AWL_bin,AWL_nil,evX,putT,prune,upd,tm,abin,aint,isC]
 refine hK _ ?_
 by_cases hi:i<ex.length
 rotate_left
 ·refine AW.seq (AW.cond (b:=false) (by simp [evX,tm,hi]) (fun hh => by cases hh) (fun _ => ?_))
  refine AW.exit ?_
  refine AW.seq (AW.reg W06 ?_)
  simp [o_,p_,b156_,AWL_asg,AWL_nil,evX,putT,prune,upd,tm]
  refine AW.ret ⟨.bool true,rfl,?_⟩
  have e:xpAll (many4 fu.length tb.length me.length gl.length) [] ex=true:=by
   rw [← hall,List.drop_of_length_le (by omega)]; rfl
  rw [e]; rfl
 refine AW.seq (AW.cond (b:=true) (by simp [evX,tm,hi]) (fun _ => ?_) (fun hh => by cases hh))
 refine AW.skip ?_
 show AW E 54 zei _ _
 unfold zei
 have hget:((ex.map xpA).getD i [])=xpA (ex.getD i default):=by simp [List.getD_eq_getElem?_getD,hi]
 refine AW.seq (AW.block (AW.rs W06 fun K hK => ?_))
 simp only [o_,p_,b156_,AWL_iaddr,AWL_load,AWL_alloc,AWL_store,AWL_nil,evX,putT,prune,upd,tm]
 refine ⟨.fptr (xpA (ex.getD i default)),by simp [aiaddr,hget,hi,xpA],by simp,?_⟩
 refine ⟨.agg (xpA (ex.getD i default)),by simp [aload,pcells,mkV,xpA],by simp,?_⟩
 generalize hx:ex.getD i default=x
 refine ⟨upd (upd h n (some (.row false 3 [[.str ⟨#[]⟩,.int .u8 0,.int .u32 0]]))) n (some (.row false 3 [xpA x])),by simp [astore,upd,cellsL,sto,xpA,splice],by simp,?_⟩
 refine hK _ ?_
 have q1:(upd (upd h n (some (.row false 3 [[.str ⟨#[]⟩,.int .u8 0,.int .u32 0]]))) n (some (.row false 3 [xpA x]))) 1=some (.row false 4 [[.int .i64 fu.length,.int .i64 tb.length,.int .i64 me.length,.int .i64 gl.length]]):=by
  simp [upd,show ¬ (1=n) by omega,h1]
 have q2:(upd (upd h n (some (.row false 3 [[.str ⟨#[]⟩,.int .u8 0,.int .u32 0]]))) n (some (.row false 3 [xpA x]))) 2=some (.mp (seen.map fun x => (.str x,.int .i64 1))):=by
  simp [upd,show ¬ (2=n) by omega,h2]
 have q3:(upd (upd h n (some (.row false 3 [[.str ⟨#[]⟩,.int .u8 0,.int .u32 0]]))) n (some (.row false 3 [xpA x]))) n=some (.row false 3 [xpA x]):=by
  simp [upd]
 generalize (upd (upd h n (some (.row false 3 [[.str ⟨#[]⟩,.int .u8 0,.int .u32 0]]))) n (some (.row false 3 [xpA x])))=H at q1 q2 q3 ⊢
 unfold zfz
 refine AW.rs W06 fun K hK => ?_
 simp [o_,p_,b156_,AWL_mov,AWL_faddr,AWL_load,AWL_mlook,AWL_mset,AWL_bin,AWL_nil,evX,putT,prune,upd,tm,xpA,aload,pcells,mkV,xval,q2,q3,abin,aint,isC]
 suffices red:∀ (es':List (AV×AV)) (j:Nat) (c:Int),mfind x.name es' 0=some (some (j,.int .i64 c))→(decide (c>1)=seen.any fun y => y==x.name)→(¬ c>1→es'=(seen++[x.name]).map fun y => (.str y,.int .i64 1)) →
   K ⟨tm [(3,.ptr 1 0 0),(4,.map 2),(6,.ptr n 0 0),(22,.slv (ex.map xpA)),(23,.int .i64 ex.length),(24,.int .i64 i)],upd H 2 (some (.mp es')),n+1⟩ by
  rcases ztg x.name (.int .i64 1) seen 0 with ⟨j,b1,b2,b3,b4⟩ | ⟨b3,b4⟩
  ·refine ⟨.int .i64 1,H,by rw [b3],.int .i64 2,rfl,.hole,upd H 2 (some (.mp ((seen.map fun x => (AV.str x,AV.int .i64 1)).set j (.str x.name,.int .i64 2)))),by rw [q2]; simp only []; rw [b3]; simp,?_⟩
   refine red _ j 2 ?_ (by rw [b4]; rfl) (fun h => absurd (by decide:(2:Int)>1) h)
   have:=zut x.name (.int .i64 1) (.int .i64 2) _ 0 j b3
   simpa using this
  ·refine ⟨.int .i64 0,H,by rw [b3],.int .i64 1,rfl,.hole,upd H 2 (some (.mp ((seen.map fun x => (AV.str x,AV.int .i64 1))++[(.str x.name,.int .i64 1)]))),by rw [q2]; simp only []; rw [b3],?_⟩
   refine red _ (0+seen.length) 1 ?_ (by rw [b4]; rfl) (fun _ => by simp)
   have:=zuu x.name (.int .i64 1) _ 0 b3
   simpa using this
 intro es' j c m1 m2 m3
 refine hK _ ?_
 have r1:upd H 2 (some (.mp es')) 1=some (.row false 4 [[.int .i64 fu.length,.int .i64 tb.length,.int .i64 me.length,.int .i64 gl.length]]):=by simp [upd,q1]
 have r2:upd H 2 (some (.mp es')) 2=some (.mp es'):=by simp [upd]
 have r3:upd H 2 (some (.mp es')) n=some (.row false 3 [xpA x]):=by simp [upd,show ¬ (n=2) by omega,q3]
 generalize upd H 2 (some (.mp es'))=H2 at r1 r2 r3 ⊢
 unfold zfA
 refine AW.rs W06 fun K hK => ?_
 have hmem:x∈ex:=by
  rw [← hx,List.getD_eq_getElem?_getD,List.getElem?_eq_getElem hi]
  exact List.getElem_mem hi
 have hw0:=hw x hmem
 suffices fin:∀ bad:Bool,bad=(!xpOk (many4 fu.length tb.length me.length gl.length) seen x)→K ⟨tm [(3,.ptr 1 0 0),(4,.map 2),(22,.slv (ex.map xpA)),(23,.int .i64 ex.length),(24,.int .i64 i),(52,.bool bad)],H2,n+1⟩ by
  clear hK
  simp only [o_,p_,b156_,AWL_mov,AWL_faddr,AWL_load,AWL_bin,AWL_nil,evX,putT,prune,upd,tm]
  simp [xpA,aload,pcells,mkV,r3,abin,aint,isC,klt,far]
  by_cases hwh:3<x.what
  ·simp [o_,p_,b156_,AWL_guard,AWL_pick,AWL_mov,AWL_nil,evX,putT,upd,tm,hwh,apick]
   exact fin true (by simp [xpOk,hwh])
  have h4:x.what=0∨x.what=1∨x.what=2∨x.what=3:=by omega
  have fin2:∀ (q:Int),(many4 fu.length tb.length me.length gl.length).getD x.what.toNat 0=q→(q≤IntKind.wrap .i64 x.index→K ⟨tm [(3,.ptr 1 0 0),(4,.map 2),(22,.slv (ex.map xpA)),(23,.int .i64 ex.length),(24,.int .i64 i),(52,.bool true)],H2,n+1⟩)∧(¬ q≤IntKind.wrap .i64 x.index→K ⟨tm [(3,.ptr 1 0 0),(4,.map 2),(22,.slv (ex.map xpA)),(23,.int .i64 ex.length),(24,.int .i64 i),(52,.bool (decide (1<c)))],H2,n+1⟩):=by
   intro q hq
   refine ⟨fun h => fin true ?_,fun h => fin _ ?_⟩
   ·unfold xpOk; rw [hq]; simp [hwh,h]
   ·unfold xpOk; rw [hq,← m2]; simp [hwh,h]
  rcases h4 with h4 | h4 | h4 | h4
  ·have f2:=fin2 (fu.length:Int) (by rw [h4]; rfl)
   simp [o_,p_,b156_,AWL_guard,AWL_pick,AWL_mov,AWL_faddr,AWL_load,AWL_convi,AWL_iaddrA,AWL_bin,AWL_nil,evX,putT,upd,tm,h4,apick,aload,pcells,mkV,r3,klt,aval,r1,xpA,far,abin,aint,isC,ex2,ex3]
   by_cases hidx:(fu.length:Int)≤IntKind.wrap .i64 x.index
   ·simp [hidx,o_,p_,b156_,AWL_guard,AWL_pick,AWL_mov,AWL_nil,evX,putT,upd,tm,apick]
    exact ⟨by omega,.inr (f2.1 hidx)⟩
   ·simp [hidx,o_,p_,b156_,AWL_guard,AWL_pick,AWL_mov,AWL_faddr,AWL_load,AWL_mlook,AWL_bin,AWL_nil,evX,putT,upd,tm,apick,aload,pcells,mkV,r3,klt,xval,r2,m1,xpA,far,abin,aint,isC]
    refine ⟨by omega,_,_,⟨rfl,rfl⟩,_,rfl,?_⟩
    exact f2.2 hidx
  ·have f2:=fin2 (tb.length:Int) (by rw [h4]; rfl)
   simp [o_,p_,b156_,AWL_guard,AWL_pick,AWL_mov,AWL_faddr,AWL_load,AWL_convi,AWL_iaddrA,AWL_bin,AWL_nil,evX,putT,upd,tm,h4,apick,aload,pcells,mkV,r3,klt,aval,r1,xpA,far,abin,aint,isC,ex2,ex3]
   by_cases hidx:(tb.length:Int)≤IntKind.wrap .i64 x.index
   ·simp [hidx,o_,p_,b156_,AWL_guard,AWL_pick,AWL_mov,AWL_nil,evX,putT,upd,tm,apick]
    exact ⟨by omega,.inr (f2.1 hidx)⟩
   ·simp [hidx,o_,p_,b156_,AWL_guard,AWL_pick,AWL_mov,AWL_faddr,AWL_load,AWL_mlook,AWL_bin,AWL_nil,evX,putT,upd,tm,apick,aload,pcells,mkV,r3,klt,xval,r2,m1,xpA,far,abin,aint,isC]
    refine ⟨by omega,_,_,⟨rfl,rfl⟩,_,rfl,?_⟩
    exact f2.2 hidx
  ·have f2:=fin2 (me.length:Int) (by rw [h4]; rfl)
   simp [o_,p_,b156_,AWL_guard,AWL_pick,AWL_mov,AWL_faddr,AWL_load,AWL_convi,AWL_iaddrA,AWL_bin,AWL_nil,evX,putT,upd,tm,h4,apick,aload,pcells,mkV,r3,klt,aval,r1,xpA,far,abin,aint,isC,ex2,ex3]
   by_cases hidx:(me.length:Int)≤IntKind.wrap .i64 x.index
   ·simp [hidx,o_,p_,b156_,AWL_guard,AWL_pick,AWL_mov,AWL_nil,evX,putT,upd,tm,apick]
    exact ⟨by omega,.inr (f2.1 hidx)⟩
   ·simp [hidx,o_,p_,b156_,AWL_guard,AWL_pick,AWL_mov,AWL_faddr,AWL_load,AWL_mlook,AWL_bin,AWL_nil,evX,putT,upd,tm,apick,aload,pcells,mkV,r3,klt,xval,r2,m1,xpA,far,abin,aint,isC]
    refine ⟨by omega,_,_,⟨rfl,rfl⟩,_,rfl,?_⟩
    exact f2.2 hidx
  ·have f2:=fin2 (gl.length:Int) (by rw [h4]; rfl)
   simp [o_,p_,b156_,AWL_guard,AWL_pick,AWL_mov,AWL_faddr,AWL_load,AWL_convi,AWL_iaddrA,AWL_bin,AWL_nil,evX,putT,upd,tm,h4,apick,aload,pcells,mkV,r3,klt,aval,r1,xpA,far,abin,aint,isC,ex2,ex3]
   by_cases hidx:(gl.length:Int)≤IntKind.wrap .i64 x.index
   ·simp [hidx,o_,p_,b156_,AWL_guard,AWL_pick,AWL_mov,AWL_nil,evX,putT,upd,tm,apick]
    exact ⟨by omega,.inr (f2.1 hidx)⟩
   ·simp [hidx,o_,p_,b156_,AWL_guard,AWL_pick,AWL_mov,AWL_faddr,AWL_load,AWL_mlook,AWL_bin,AWL_nil,evX,putT,upd,tm,apick,aload,pcells,mkV,r3,klt,xval,r2,m1,xpA,far,abin,aint,isC]
    refine ⟨by omega,_,_,⟨rfl,rfl⟩,_,rfl,?_⟩
    exact f2.2 hidx
 intro bad hbad
 refine hK _ ?_
 unfold zfB
 have hd:ex.drop i=x :: ex.drop (i+1):=by
  rw [List.drop_eq_getElem_cons hi,← hx,List.getD_eq_getElem?_getD,List.getElem?_eq_getElem hi]; rfl
 have hall2:=hall
 rw [hd] at hall2
 simp only [xpAll] at hall2
 cases bad with
 | true => 
  refine AW.cond (b:=true) rfl (fun _ => ?_) (fun hh => by cases hh)
  refine AW.seq (AW.reg W06 ?_)
  simp [o_,p_,b156_,AWL_asg,AWL_nil,evX,putT,prune,upd,tm]
  refine AW.ret ⟨.bool false,rfl,?_⟩
  have e:xpOk (many4 fu.length tb.length me.length gl.length) seen x=false:=by simpa using hbad
  rw [e,Bool.false_and] at hall2
  rw [← hall2]; rfl
 | false => 
  refine AW.cond (b:=false) rfl (fun hh => by cases hh) (fun _ => ?_)
  refine AW.skip ?_
  show AW E 54 zej _ _
  unfold zej
  refine AW.reg W06 ?_
  simp only [o_,p_,b156_,AWL_mov,AWL_bin,AWL_nil,evX,putT,prune,upd,tm]
  refine ⟨.int .i64 (IntKind.i64.wrap ((i:Int)+1)),by simp [abin,aint,tm],?_⟩
  have e:xpOk (many4 fu.length tb.length me.length gl.length) seen x=true:=by simpa using hbad
  rw [e,Bool.true_and] at hall2
  have hc1:¬ c>1:=by
   intro hc
   have:(seen.any fun y => y==x.name)=true:=by rw [← m2]; exact decide_eq_true hc
   unfold xpOk at e
   rw [this,Bool.or_true] at e
   cases e
  refine ⟨ex.length - (i+1),by omega,i+1,seen++[x.name],by omega,?_,r1,by rw [r2,m3 hc1],by show 3≤n+1; omega,hall2⟩
  have hw:IntKind.i64.wrap ((i:Int)+1)=((i+1:Nat):Int):=by rw [IntKind.wrap_i64]; omega
  rw [hw]; simp [tm]
theorem toA_sVs {α:Type} [Inhabited α] (en:α→List FV) (l:List α):toA (sV en l)=.slv (l.map fun x => (en x).map toA):=by
 simp only [sV,toA,fl,toAL_map]
 congr 1
 apply List.ext_getElem
 ·simp
 ·intro i h1 h2
  have hi:i<l.length:=by simpa using h2
  simp [List.getD_eq_getElem?_getD,hi]
def zfd (p0:Mdl):Option Bool:=gd (p0.exports.length<1000000000∧∀ e∈p0.exports,0≤e.what) (some (xpAll (many4 p0.funcs.length p0.tables.length p0.memories.length p0.globals.length) [] p0.exports))
theorem zou (p0:Mdl) (r:Bool) (H:zfd p0=some r):CF E 36 [.agg (eMdl p0)] (.bool r):=by
 obtain ⟨h,H⟩:=zaf H
 obtain rfl:=Option.some.inj H
 have e:toA (.agg (eMdl p0))=.agg [toA (sV eTyp p0.types),.slv (p0.funcs.map fun x => (eFnc x).map toA),.slv (p0.tables.map fun x => (eLim x).map toA),.slv (p0.memories.map fun x => (eLim x).map toA),.slv (p0.globals.map fun x => (eGlo x).map toA),.slv (p0.exports.map xpA),toA (sV eEle p0.elems),toA (sV eDat p0.datas)]:=by
  simp only [eMdl,toA,toAL]
  rw [toA_sVs eFnc,toA_sVs eLim,toA_sVs eLim,toA_sVs eGlo,toA_sVs eXpo]
  rfl
 have hs:∀ {α:Type} [Inhabited α] (en:α→List FV) (l:List α),sto (toA (sV en l))=true:=fun en l => by rw [toA_sVs]; rfl
 have c:=zvr (toA (sV eTyp p0.types)) (toA (sV eEle p0.elems)) (toA (sV eDat p0.datas)) (p0.funcs.map fun x => (eFnc x).map toA) (p0.tables.map fun x => (eLim x).map toA) (p0.memories.map fun x => (eLim x).map toA) (p0.globals.map fun x => (eGlo x).map toA) p0.exports h.1 h.2 ⟨hs _ _,hs _ _,hs _ _⟩
 simp only [List.length_map] at c
 show ACallP E 36 [toA (.agg (eMdl p0))] _
 rw [e]
 exact c
end Go.Proofs.YtablleokoifolaaGreatDoor
set_option linter.unusedVariables false
set_option maxRecDepth 100000
set_option maxHeartbeats 4000000
namespace Go.Proofs.YtablleokoifolaaGreatDoor
open Go
def zca:Nat→Mdl→Int→Option (Bool)
 | 0,_,_ => none
 | k+1,p0,a28 => (if (decide (a28<(p0.datas.length:Int)))=true then gd (0≤a28∧a28<(p0.datas.length:Int)) ((if (((p0.datas.getD a28.toNat default).memory) != (0:Int))=true then some true else (if ((p0.memories.length:Int)==(0:Int))=true then some true else ((zbR ((p0.datas.getD a28.toNat default).offset) 127).bind fun x30 => some (!x30)))).bind (fun j32 => (if j32=true then some false else zca k p0 (wI (a28+1))))) else ((zfd p0).bind fun x36 => some x36))
def zcb:Nat→Nat→Mdl→Int→Option (Bool)
 | 0,_,_,_ => none
 | k+1,K,p0,a17 => (if (decide (a17<(p0.elems.length:Int)))=true then gd (0≤a17∧a17<(p0.elems.length:Int)) ((if (((p0.elems.getD a17.toNat default).table) != (0:Int))=true then some true else (if ((p0.tables.length:Int)==(0:Int))=true then some true else ((zbR ((p0.elems.getD a17.toNat default).offset) 127).bind fun x19 => (if (!x19)=true then some true else ((zaC K ((p0.elems.getD a17.toNat default).funcs) (fun x => zct x p0)).bind fun x21 => some x21))))).bind (fun j23 => (if j23=true then some false else zcb k K p0 (wI (a17+1))))) else zca K p0 0)
def zcc:Nat→Nat→Mdl→Int→Option (Bool)
 | 0,_,_,_ => none
 | k+1,K,p0,a12 => (if (decide (a12<(p0.globals.length:Int)))=true then gd (0≤a12∧a12<(p0.globals.length:Int)) ((zbR ((p0.globals.getD a12.toNat default).init_) ((p0.globals.getD a12.toNat default).kind)).bind fun x14 => (if (!x14)=true then some false else zcc k K p0 (wI (a12+1)))) else zcb K K p0 0)
def zcd:Nat→Nat→Mdl→Int→Option (Bool)
 | 0,_,_,_ => none
 | k+1,K,p0,a9 => (if (decide (a9<(p0.funcs.length:Int)))=true then gd (0≤a9∧a9<(p0.funcs.length:Int)) (if (decide (((p0.funcs.getD a9.toNat default).type_)≥(IntKind.wrap .u32 (p0.types.length:Int))))=true then some false else zcd k K p0 (wI (a9+1))) else zcc K K p0 0)
def zeD (K:Nat) (p0:Mdl):Option (Bool):=((zeE K p0).bind fun x1 => (if (!x1)=true then some true else (if (decide ((p0.tables.length:Int)>(1:Int)))=true then some true else (if (decide ((p0.memories.length:Int)>(1:Int)))=true then some true else ((zae K p0.tables (fun x => zbK x)).bind fun x3 => (if x3=true then some true else ((zae K p0.memories (fun x => zbK x)).bind fun x5 => some x5)))))).bind (fun j7 => (if j7=true then some false else zcd K K p0 0)))
theorem ztK (K:Nat) (p0:Mdl) (r:Bool) (H:zeD K p0=some r):CF E 22 [.agg (eMdl p0)] (.bool r):=by
 refine zeg (A:=ziC) zlY rfl fun fr => ?_
 unfold zeD at H
 refine AW2.seq ?_
 refine r_ [.k 1] [1] [] [.k 1] ⟨[(1,.p 1 0)],[(1,.st false (eD (eMdl p0)))]⟩ (a_ t_ t_) ?_
 refine AW2.seq ?_
 refine AW2.seq ?_
 refine AW2.fz [.fp (eMdl p0)] t_ (by kernel_rfl) (by kernel_rfl) ?_
 refine AW2.wk (zbc [1] [] [] t_ (by kernel_rfl):Wk _ ⟨[(1,.d (.fp (eMdl p0)))],[]⟩) ?_
 obtain ⟨x1,hx2,H⟩:=bind_some H
 obtain ⟨j7,H39,H⟩:=bind_some H
 refine AW2.reg [] rfl (YW.to ⟨[(1,.d (.fp (eMdl p0))),(35,.d (.bool j7))],[]⟩ ?qh40 ?h40)
 case h40 => 
  have H:=H39
  rcases bT (!x1) with hc1 | hc1
  ·replace H:=zao H hc1
   have H:=Option.some.inj H
   subst H
   exact YW.fin [(14,true),(20,true),(26,true),(31,true)] [.r (.bool x1)] [1,35] [] [] _ (a_ (a_ (zdv K p0 x1 hx2) (a_ hc1 (a_ hc1 (a_ hc1 (a_ hc1 (a_ hc1 (a_ (Eq.refl true) (a_ (Eq.refl true) (a_ (Eq.refl true) (a_ (Eq.refl true) (a_ (Eq.refl true) (a_ (Eq.refl true) (a_ (Eq.refl true) (a_ (Eq.refl true) (a_ (Eq.refl true) (a_ (Eq.refl true) (a_ (Eq.refl true) (a_ (Eq.refl true) (a_ (Eq.refl true) t_))))))))))))))))))) t_) (by kernel_rfl) rfl
  ·replace H:=zap H hc1
   rcases bT (decide ((p0.tables.length:Int)>(1:Int))) with hc2 | hc2
   ·replace H:=zao H hc2
    have H:=Option.some.inj H
    subst H
    exact YW.fin [(14,false),(20,true),(26,true),(31,true)] [.r (.bool x1)] [1,35] [] [] _ (a_ (a_ (zdv K p0 x1 hx2) (a_ hc1 (a_ hc1 (a_ hc1 (a_ hc1 (a_ hc1 (a_ hc2 (a_ hc2 (a_ hc2 (a_ hc2 (a_ hc2 (a_ (Eq.refl true) (a_ (Eq.refl true) (a_ (Eq.refl true) (a_ (Eq.refl true) (a_ (Eq.refl true) (a_ (Eq.refl true) (a_ (Eq.refl true) (a_ (Eq.refl true) t_))))))))))))))))))) t_) (by kernel_rfl) rfl
   ·replace H:=zap H hc2
    rcases bT (decide ((p0.memories.length:Int)>(1:Int))) with hc3 | hc3
    ·replace H:=zao H hc3
     have H:=Option.some.inj H
     subst H
     exact YW.fin [(14,false),(20,false),(26,true),(31,true)] [.r (.bool x1)] [1,35] [] [] _ (a_ (a_ (zdv K p0 x1 hx2) (a_ hc1 (a_ hc1 (a_ hc1 (a_ hc1 (a_ hc1 (a_ hc2 (a_ hc2 (a_ hc2 (a_ hc2 (a_ hc2 (a_ hc3 (a_ hc3 (a_ hc3 (a_ hc3 (a_ (Eq.refl true) (a_ (Eq.refl true) (a_ (Eq.refl true) (a_ (Eq.refl true) t_))))))))))))))))))) t_) (by kernel_rfl) rfl
    ·replace H:=zap H hc3
     obtain ⟨x3,hx4,H⟩:=bind_some H
     rcases bT x3 with hc4 | hc4
     ·replace H:=zao H hc4
      have H:=Option.some.inj H
      subst H
      exact YW.fin [(14,false),(20,false),(26,false),(31,true)] [.r (.bool x1),.r (.bool x3)] [1,35] [] [] _ (a_ (a_ (zdv K p0 x1 hx2) (a_ hc1 (a_ hc1 (a_ hc1 (a_ hc1 (a_ hc1 (a_ hc2 (a_ hc2 (a_ hc2 (a_ hc2 (a_ hc2 (a_ hc3 (a_ hc3 (a_ hc3 (a_ (zaN K p0.tables 32 (fun x => zbK x) (fun x b hb => zgW x b hb) x3 hx4) (a_ hc3 (a_ hc4 (a_ hc4 (a_ hc4 (a_ hc4 t_)))))))))))))))))))) t_) (by kernel_rfl) rfl
     ·replace H:=zap H hc4
      obtain ⟨x5,hx6,H⟩:=bind_some H
      have H:=Option.some.inj H
      subst H
      exact YW.fin [(14,false),(20,false),(26,false),(31,false)] [.r (.bool x1),.r (.bool x3),.r (.bool x5)] [1,35] [] [] _ (a_ (a_ (zdv K p0 x1 hx2) (a_ hc1 (a_ hc1 (a_ hc1 (a_ hc1 (a_ hc1 (a_ hc2 (a_ hc2 (a_ hc2 (a_ hc2 (a_ hc2 (a_ hc3 (a_ hc3 (a_ hc3 (a_ (zaN K p0.tables 32 (fun x => zbK x) (fun x b hb => zgW x b hb) x3 hx4) (a_ hc3 (a_ hc4 (a_ hc4 (a_ hc4 (a_ (zaN K p0.memories 32 (fun x => zbK x) (fun x b hb => zgW x b hb) x5 hx6) (a_ hc4 t_))))))))))))))))))))) t_) (by kernel_rfl) rfl
 refine AW2.cond (b:=j7) rfl (fun hc => ?_) (fun hc => ?_)
 ·replace H:=zao H hc
  refine AW2.seq ?_
  refine r_ [] [2] [] [] ⟨[(2,.d (.bool false))],[]⟩ (a_ t_ t_) ?_
  refine AW2.ret ?_
  have H:=Option.some.inj H
  subst H
  exact retP_mk2 t_ (by kernel_rfl)
 ·replace H:=zap H hc
  refine AW2.skip ?_
  refine AW2.seq ?_
  refine AW2.seq ?_
  refine r_ [] [1,37,38,39] [] [] ⟨[(1,.d (.fp (eMdl p0))),(37,.d (sV eFnc p0.funcs)),(38,.d (.int .i64 (p0.funcs.length:Int))),(39,.d (.int .i64 0))],[]⟩ (a_ t_ t_) ?_
  refine AW2.block ?_
  refine AW2.lp (σ:=Int) (fun v => ⟨[(1,.d (.fp (eMdl p0))),(37,.d (sV eFnc p0.funcs)),(38,.d (.int .i64 (p0.funcs.length:Int))),(39,.d (.int .i64 v))],[]⟩) (fun k v => zcd k K p0 v=some r) ?_ K 0 H
  rintro k a9 H
  cases k with
  | zero => cases H
  | succ k => 
  unfold zcd at H
  refine AW2.seq ?_
  refine r_ [] [1,37,38,39,40] [] [] ⟨[(1,.d (.fp (eMdl p0))),(37,.d (sV eFnc p0.funcs)),(38,.d (.int .i64 (p0.funcs.length:Int))),(39,.d (.int .i64 a9)),(40,.d (.bool (decide (a9<(p0.funcs.length:Int)))))],[]⟩ (a_ t_ t_) ?_
  refine AW2.seq ?_
  refine AW2.cond (b:=(decide (a9<(p0.funcs.length:Int)))) rfl (fun hc => ?_) (fun hc => ?_)
  ·replace H:=zao H hc
   refine AW2.skip ?_
   refine AW2.seq ?_
   refine AW2.block ?_
   refine AW2.seq ?_
   obtain ⟨h10,H⟩:=zaf H
   refine r_ [.k 4] [1,4,37,38,39] [] [.k 4] ⟨[(1,.d (.fp (eMdl p0))),(4,.p 4 0),(37,.d (sV eFnc p0.funcs)),(38,.d (.int .i64 (p0.funcs.length:Int))),(39,.d (.int .i64 a9))],[(4,.st false (eD (eFnc (p0.funcs.getD a9.toNat default))))]⟩ (a_ (a_ h10 t_) t_) ?_
   refine AW2.seq ?_
   refine r_ [] [1,37,38,39,49] [] [] ⟨[(1,.d (.fp (eMdl p0))),(37,.d (sV eFnc p0.funcs)),(38,.d (.int .i64 (p0.funcs.length:Int))),(39,.d (.int .i64 a9)),(49,.d (.bool (decide (((p0.funcs.getD a9.toNat default).type_)≥(IntKind.wrap .u32 (p0.types.length:Int))))))],[]⟩ (a_ t_ t_) ?_
   refine AW2.cond (b:=(decide (((p0.funcs.getD a9.toNat default).type_)≥(IntKind.wrap .u32 (p0.types.length:Int))))) rfl (fun hc => ?_) (fun hc => ?_)
   ·replace H:=zao H hc
    refine AW2.seq ?_
    refine r_ [] [2] [] [] ⟨[(2,.d (.bool false))],[]⟩ (a_ t_ t_) ?_
    refine AW2.ret ?_
    have H:=Option.some.inj H
    subst H
    exact retP_mk2 t_ (by kernel_rfl)
   ·replace H:=zap H hc
    refine AW2.skip ?_
    refine r_ [] [1,37,38,39] [] [] ⟨[(1,.d (.fp (eMdl p0))),(37,.d (sV eFnc p0.funcs)),(38,.d (.int .i64 (p0.funcs.length:Int))),(39,.d (.int .i64 (wI (a9+1))))],[]⟩ (a_ t_ t_) ?_
    exact ⟨k,(wI (a9+1)),Nat.lt_succ_self k,H,zbc [1,37,38,39] [] [] t_ (by kernel_rfl)⟩
  ·replace H:=zap H hc
   refine AW2.exit ?_
   refine AW2.seq ?_
   refine AW2.seq ?_
   refine r_ [] [1,52,53,54] [] [] ⟨[(1,.d (.fp (eMdl p0))),(52,.d (sV eGlo p0.globals)),(53,.d (.int .i64 (p0.globals.length:Int))),(54,.d (.int .i64 0))],[]⟩ (a_ t_ t_) ?_
   refine AW2.block ?_
   refine AW2.lp (σ:=Int) (fun v => ⟨[(1,.d (.fp (eMdl p0))),(52,.d (sV eGlo p0.globals)),(53,.d (.int .i64 (p0.globals.length:Int))),(54,.d (.int .i64 v))],[]⟩) (fun k v => zcc k K p0 v=some r) ?_ K 0 H
   rintro k a12 H
   cases k with
   | zero => cases H
   | succ k => 
   unfold zcc at H
   refine AW2.seq ?_
   refine r_ [] [1,52,53,54,55] [] [] ⟨[(1,.d (.fp (eMdl p0))),(52,.d (sV eGlo p0.globals)),(53,.d (.int .i64 (p0.globals.length:Int))),(54,.d (.int .i64 a12)),(55,.d (.bool (decide (a12<(p0.globals.length:Int)))))],[]⟩ (a_ t_ t_) ?_
   refine AW2.seq ?_
   refine AW2.cond (b:=(decide (a12<(p0.globals.length:Int)))) rfl (fun hc => ?_) (fun hc => ?_)
   ·replace H:=zao H hc
    refine AW2.skip ?_
    refine AW2.seq ?_
    refine AW2.block ?_
    refine AW2.seq ?_
    obtain ⟨h13,H⟩:=zaf H
    refine r_ [.k 6] [1,6,52,53,54] [] [.k 6] ⟨[(1,.d (.fp (eMdl p0))),(6,.p 6 0),(52,.d (sV eGlo p0.globals)),(53,.d (.int .i64 (p0.globals.length:Int))),(54,.d (.int .i64 a12))],[(6,.st false (eD (eGlo (p0.globals.getD a12.toNat default))))]⟩ (a_ (a_ h13 t_) t_) ?_
    refine AW2.seq ?_
    obtain ⟨x14,hx15,H⟩:=bind_some H
    refine r_ [.r (.bool x14)] [1,52,53,54,63] [] [] ⟨[(1,.d (.fp (eMdl p0))),(52,.d (sV eGlo p0.globals)),(53,.d (.int .i64 (p0.globals.length:Int))),(54,.d (.int .i64 a12)),(63,.d (.bool (!x14)))],[]⟩ (a_ (a_ (zfi ((p0.globals.getD a12.toNat default).init_) ((p0.globals.getD a12.toNat default).kind) x14 hx15) t_) t_) ?_
    refine AW2.cond (b:=(!x14)) rfl (fun hc => ?_) (fun hc => ?_)
    ·replace H:=zao H hc
     refine AW2.seq ?_
     refine r_ [] [2] [] [] ⟨[(2,.d (.bool false))],[]⟩ (a_ t_ t_) ?_
     refine AW2.ret ?_
     have H:=Option.some.inj H
     subst H
     exact retP_mk2 t_ (by kernel_rfl)
    ·replace H:=zap H hc
     refine AW2.skip ?_
     refine r_ [] [1,52,53,54] [] [] ⟨[(1,.d (.fp (eMdl p0))),(52,.d (sV eGlo p0.globals)),(53,.d (.int .i64 (p0.globals.length:Int))),(54,.d (.int .i64 (wI (a12+1))))],[]⟩ (a_ t_ t_) ?_
     exact ⟨k,(wI (a12+1)),Nat.lt_succ_self k,H,zbc [1,52,53,54] [] [] t_ (by kernel_rfl)⟩
   ·replace H:=zap H hc
    refine AW2.exit ?_
    refine AW2.seq ?_
    refine AW2.seq ?_
    refine r_ [] [1,66,67,68] [] [] ⟨[(1,.d (.fp (eMdl p0))),(66,.d (sV eEle p0.elems)),(67,.d (.int .i64 (p0.elems.length:Int))),(68,.d (.int .i64 0))],[]⟩ (a_ t_ t_) ?_
    refine AW2.block ?_
    refine AW2.lp (σ:=Int) (fun v => ⟨[(1,.d (.fp (eMdl p0))),(66,.d (sV eEle p0.elems)),(67,.d (.int .i64 (p0.elems.length:Int))),(68,.d (.int .i64 v))],[]⟩) (fun k v => zcb k K p0 v=some r) ?_ K 0 H
    rintro k a17 H
    cases k with
    | zero => cases H
    | succ k => 
    unfold zcb at H
    refine AW2.seq ?_
    refine r_ [] [1,66,67,68,69] [] [] ⟨[(1,.d (.fp (eMdl p0))),(66,.d (sV eEle p0.elems)),(67,.d (.int .i64 (p0.elems.length:Int))),(68,.d (.int .i64 a17)),(69,.d (.bool (decide (a17<(p0.elems.length:Int)))))],[]⟩ (a_ t_ t_) ?_
    refine AW2.seq ?_
    refine AW2.cond (b:=(decide (a17<(p0.elems.length:Int)))) rfl (fun hc => ?_) (fun hc => ?_)
    ·replace H:=zao H hc
     refine AW2.skip ?_
     refine AW2.seq ?_
     refine AW2.block ?_
     refine AW2.seq ?_
     obtain ⟨h18,H⟩:=zaf H
     refine r_ [.k 8] [1,8,66,67,68] [] [.k 8] ⟨[(1,.d (.fp (eMdl p0))),(8,.p 8 0),(66,.d (sV eEle p0.elems)),(67,.d (.int .i64 (p0.elems.length:Int))),(68,.d (.int .i64 a17))],[(8,.st false (eD (eEle (p0.elems.getD a17.toNat default))))]⟩ (a_ (a_ h18 t_) t_) ?_
     refine AW2.seq ?_
     obtain ⟨j23,H25,H⟩:=bind_some H
     refine AW2.reg [] rfl (YW.to ⟨[(1,.d (.fp (eMdl p0))),(66,.d (sV eEle p0.elems)),(67,.d (.int .i64 (p0.elems.length:Int))),(68,.d (.int .i64 a17)),(92,.d (.bool j23))],[]⟩ ?qh26 ?h26)
     case h26 => 
      have H:=H25
      rcases bT (((p0.elems.getD a17.toNat default).table) != (0:Int)) with hc1 | hc1
      ·replace H:=zao H hc1
       have H:=Option.some.inj H
       subst H
       exact YW.fin [(75,true),(81,true),(87,true)] [] [1,66,67,68,92] [] [] _ (a_ (a_ hc1 (a_ hc1 (a_ hc1 (a_ hc1 (a_ hc1 (a_ (Eq.refl true) (a_ (Eq.refl true) (a_ (Eq.refl true) (a_ (Eq.refl true) (a_ (Eq.refl true) (a_ (Eq.refl true) (a_ (Eq.refl true) (a_ (Eq.refl true) (a_ (Eq.refl true) (a_ (Eq.refl true) t_))))))))))))))) t_) (by kernel_rfl) rfl
      ·replace H:=zap H hc1
       rcases bT ((p0.tables.length:Int)==(0:Int)) with hc2 | hc2
       ·replace H:=zao H hc2
        have H:=Option.some.inj H
        subst H
        exact YW.fin [(75,false),(81,true),(87,true)] [] [1,66,67,68,92] [] [] _ (a_ (a_ hc1 (a_ hc1 (a_ hc1 (a_ hc1 (a_ hc1 (a_ hc2 (a_ hc2 (a_ hc2 (a_ hc2 (a_ hc2 (a_ (Eq.refl true) (a_ (Eq.refl true) (a_ (Eq.refl true) (a_ (Eq.refl true) (a_ (Eq.refl true) t_))))))))))))))) t_) (by kernel_rfl) rfl
       ·replace H:=zap H hc2
        obtain ⟨x19,hx20,H⟩:=bind_some H
        rcases bT (!x19) with hc3 | hc3
        ·replace H:=zao H hc3
         have H:=Option.some.inj H
         subst H
         exact YW.fin [(75,false),(81,false),(87,true)] [.r (.bool x19)] [1,66,67,68,92] [] [] _ (a_ (a_ hc1 (a_ hc1 (a_ hc1 (a_ hc1 (a_ hc1 (a_ hc2 (a_ hc2 (a_ hc2 (a_ (zfi ((p0.elems.getD a17.toNat default).offset) 127 x19 hx20) (a_ hc2 (a_ hc2 (a_ hc3 (a_ hc3 (a_ hc3 (a_ hc3 (a_ hc3 t_)))))))))))))))) t_) (by kernel_rfl) rfl
        ·replace H:=zap H hc3
         obtain ⟨x21,hx22,H⟩:=bind_some H
         have H:=Option.some.inj H
         subst H
         exact YW.fin [(75,false),(81,false),(87,false)] [.r (.bool x19),.r (.bool x21)] [1,66,67,68,92] [] [] _ (a_ (a_ hc1 (a_ hc1 (a_ hc1 (a_ hc1 (a_ hc1 (a_ hc2 (a_ hc2 (a_ hc2 (a_ (zfi ((p0.elems.getD a17.toNat default).offset) 127 x19 hx20) (a_ hc2 (a_ hc2 (a_ hc3 (a_ hc3 (a_ hc3 (a_ hc3 (a_ (zdw K ((p0.elems.getD a17.toNat default).funcs) 34 (eMdl p0) (fun x => zct x p0) (fun x b hb => zrh x p0 b hb) x21 hx22) (a_ hc3 t_))))))))))))))))) t_) (by kernel_rfl) rfl
     refine AW2.cond (b:=j23) rfl (fun hc => ?_) (fun hc => ?_)
     ·replace H:=zao H hc
      refine AW2.seq ?_
      refine r_ [] [2] [] [] ⟨[(2,.d (.bool false))],[]⟩ (a_ t_ t_) ?_
      refine AW2.ret ?_
      have H:=Option.some.inj H
      subst H
      exact retP_mk2 t_ (by kernel_rfl)
     ·replace H:=zap H hc
      refine AW2.skip ?_
      refine r_ [] [1,66,67,68] [] [] ⟨[(1,.d (.fp (eMdl p0))),(66,.d (sV eEle p0.elems)),(67,.d (.int .i64 (p0.elems.length:Int))),(68,.d (.int .i64 (wI (a17+1))))],[]⟩ (a_ t_ t_) ?_
      exact ⟨k,(wI (a17+1)),Nat.lt_succ_self k,H,zbc [1,66,67,68] [] [] t_ (by kernel_rfl)⟩
    ·replace H:=zap H hc
     refine AW2.exit ?_
     refine AW2.seq ?_
     refine AW2.seq ?_
     refine r_ [] [1,95,96,97] [] [] ⟨[(1,.d (.fp (eMdl p0))),(95,.d (sV eDat p0.datas)),(96,.d (.int .i64 (p0.datas.length:Int))),(97,.d (.int .i64 0))],[]⟩ (a_ t_ t_) ?_
     refine AW2.block ?_
     refine AW2.lp (σ:=Int) (fun v => ⟨[(1,.d (.fp (eMdl p0))),(95,.d (sV eDat p0.datas)),(96,.d (.int .i64 (p0.datas.length:Int))),(97,.d (.int .i64 v))],[]⟩) (fun k v => zca k p0 v=some r) ?_ K 0 H
     rintro k a28 H
     cases k with
     | zero => cases H
     | succ k => 
     unfold zca at H
     refine AW2.seq ?_
     refine r_ [] [1,95,96,97,98] [] [] ⟨[(1,.d (.fp (eMdl p0))),(95,.d (sV eDat p0.datas)),(96,.d (.int .i64 (p0.datas.length:Int))),(97,.d (.int .i64 a28)),(98,.d (.bool (decide (a28<(p0.datas.length:Int)))))],[]⟩ (a_ t_ t_) ?_
     refine AW2.seq ?_
     refine AW2.cond (b:=(decide (a28<(p0.datas.length:Int)))) rfl (fun hc => ?_) (fun hc => ?_)
     ·replace H:=zao H hc
      refine AW2.skip ?_
      refine AW2.seq ?_
      refine AW2.block ?_
      refine AW2.seq ?_
      obtain ⟨h29,H⟩:=zaf H
      refine r_ [.k 10] [1,10,95,96,97] [] [.k 10] ⟨[(1,.d (.fp (eMdl p0))),(10,.p 10 0),(95,.d (sV eDat p0.datas)),(96,.d (.int .i64 (p0.datas.length:Int))),(97,.d (.int .i64 a28))],[(10,.st false (eD (eDat (p0.datas.getD a28.toNat default))))]⟩ (a_ (a_ h29 t_) t_) ?_
      refine AW2.seq ?_
      obtain ⟨j32,H34,H⟩:=bind_some H
      refine AW2.reg [] rfl (YW.to ⟨[(1,.d (.fp (eMdl p0))),(95,.d (sV eDat p0.datas)),(96,.d (.int .i64 (p0.datas.length:Int))),(97,.d (.int .i64 a28)),(115,.d (.bool j32))],[]⟩ ?qh35 ?h35)
      case h35 => 
       have H:=H34
       rcases bT (((p0.datas.getD a28.toNat default).memory) != (0:Int)) with hc1 | hc1
       ·replace H:=zao H hc1
        have H:=Option.some.inj H
        subst H
        exact YW.fin [(104,true),(110,true)] [] [1,95,96,97,115] [] [] _ (a_ (a_ hc1 (a_ hc1 (a_ hc1 (a_ hc1 (a_ hc1 (a_ (Eq.refl true) (a_ (Eq.refl true) (a_ (Eq.refl true) (a_ (Eq.refl true) (a_ (Eq.refl true) t_)))))))))) t_) (by kernel_rfl) rfl
       ·replace H:=zap H hc1
        rcases bT ((p0.memories.length:Int)==(0:Int)) with hc2 | hc2
        ·replace H:=zao H hc2
         have H:=Option.some.inj H
         subst H
         exact YW.fin [(104,false),(110,true)] [] [1,95,96,97,115] [] [] _ (a_ (a_ hc1 (a_ hc1 (a_ hc1 (a_ hc1 (a_ hc1 (a_ hc2 (a_ hc2 (a_ hc2 (a_ hc2 (a_ hc2 t_)))))))))) t_) (by kernel_rfl) rfl
        ·replace H:=zap H hc2
         obtain ⟨x30,hx31,H⟩:=bind_some H
         have H:=Option.some.inj H
         subst H
         exact YW.fin [(104,false),(110,false)] [.r (.bool x30)] [1,95,96,97,115] [] [] _ (a_ (a_ hc1 (a_ hc1 (a_ hc1 (a_ hc1 (a_ hc1 (a_ hc2 (a_ hc2 (a_ hc2 (a_ (zfi ((p0.datas.getD a28.toNat default).offset) 127 x30 hx31) (a_ hc2 (a_ hc2 t_))))))))))) t_) (by kernel_rfl) rfl
      refine AW2.cond (b:=j32) rfl (fun hc => ?_) (fun hc => ?_)
      ·replace H:=zao H hc
       refine AW2.seq ?_
       refine r_ [] [2] [] [] ⟨[(2,.d (.bool false))],[]⟩ (a_ t_ t_) ?_
       refine AW2.ret ?_
       have H:=Option.some.inj H
       subst H
       exact retP_mk2 t_ (by kernel_rfl)
      ·replace H:=zap H hc
       refine AW2.skip ?_
       refine r_ [] [1,95,96,97] [] [] ⟨[(1,.d (.fp (eMdl p0))),(95,.d (sV eDat p0.datas)),(96,.d (.int .i64 (p0.datas.length:Int))),(97,.d (.int .i64 (wI (a28+1))))],[]⟩ (a_ t_ t_) ?_
       exact ⟨k,(wI (a28+1)),Nat.lt_succ_self k,H,zbc [1,95,96,97] [] [] t_ (by kernel_rfl)⟩
     ·replace H:=zap H hc
      refine AW2.exit ?_
      refine AW2.seq ?_
      obtain ⟨x36,hx37,H⟩:=bind_some H
      refine r_ [.r (.bool x36)] [2] [] [] ⟨[(2,.d (.bool x36))],[]⟩ (a_ (a_ (zou p0 x36 hx37) t_) t_) ?_
      refine AW2.ret ?_
      have H:=Option.some.inj H
      subst H
      exact retP_mk2 t_ (by kernel_rfl)
def zbO:Nat→Nat→Mdl→Int→Option (Int×Option Int)
 | 0,_,_,_ => none
 | k+1,K,p0,a13 => (if (decide (a13<(p0.funcs.length:Int)))=true then ((zeY K p0 a13).bind fun x14 => (if (!x14.isNone)=true then some (a13,(some 7)) else zbO k K p0 (wI (a13+1)))) else some ((-1),none))
def zaU (K:Nat) (p0:Mdl):Option (Int×Option Int):=((zcv 256).bind fun x1 => ((zae K p0.tables (fun x => zbb x x1)).bind fun x3 => (if x3=true then some true else ((zcv 16).bind fun x5 => ((zae K p0.memories (fun x => zbb x x5)).bind fun x7 => some x7))).bind (fun j9 => (if j9=true then some ((-1),(some 9)) else ((zeD K p0).bind fun x10 => (if (!x10)=true then some ((-1),(some 7)) else zbO K K p0 0))))))
theorem zcl (K:Nat) (p0:Mdl) (r:Int×Option Int) (H:zaU K p0=some r):CF E 4 [.agg (eMdl p0)] (.tup [.int .i64 r.1,.err 45 r.2]):=by
 refine zeg (A:=ziY) zmb rfl fun fr => ?_
 unfold zaU at H
 refine AW2.seq ?_
 refine r_ [.k 1] [1] [] [.k 1] ⟨[(1,.p 1 0)],[(1,.st false (eD (eMdl p0)))]⟩ (a_ t_ t_) ?_
 refine AW2.seq ?_
 refine r_ [] [1,4] [] [.k 1] ⟨[(1,.p 1 0),(4,.d (.func 20 []))],[(1,.st false (eD (eMdl p0)))]⟩ (a_ t_ t_) ?_
 refine AW2.seq ?_
 refine AW2.block ?_
 refine AW2.seq ?_
 obtain ⟨x1,hx2,H⟩:=bind_some H
 obtain ⟨x3,hx4,H⟩:=bind_some H
 obtain ⟨j9,H17,H⟩:=bind_some H
 refine AW2.reg [] rfl (YW.to ⟨[(1,.p 1 0),(7,.d (.bool j9))],[(1,.st false (eD (eMdl p0)))]⟩ ?qh18 ?h18)
 case h18 => 
  have H:=H17
  rcases bT x3 with hc1 | hc1
  ·replace H:=zao H hc1
   have H:=Option.some.inj H
   subst H
   exact YW.fin [(13,true)] [.r (.func 29 [.fp ((eI .u32) x1)]),.r (.bool x3)] [1,7] [] [.k 1] _ (a_ (a_ (zfq 256 x1 hx2) (a_ (zaM K p0.tables 29 ((eI .u32) x1) (fun x => zbb x x1) (fun x b hb => zeW x x1 b hb) x3 hx4) (a_ hc1 (a_ hc1 (a_ hc1 (a_ hc1 (a_ hc1 (a_ hc1 t_)))))))) t_) (by kernel_rfl) rfl
  ·replace H:=zap H hc1
   obtain ⟨x5,hx6,H⟩:=bind_some H
   obtain ⟨x7,hx8,H⟩:=bind_some H
   have H:=Option.some.inj H
   subst H
   exact YW.fin [(13,false)] [.r (.func 29 [.fp ((eI .u32) x1)]),.r (.bool x3),.r (.func 29 [.fp ((eI .u32) x5)]),.r (.bool x7)] [1,7] [] [.k 1] _ (a_ (a_ (zfq 256 x1 hx2) (a_ (zaM K p0.tables 29 ((eI .u32) x1) (fun x => zbb x x1) (fun x b hb => zeW x x1 b hb) x3 hx4) (a_ hc1 (a_ hc1 (a_ hc1 (a_ hc1 (a_ (zfq 16 x5 hx6) (a_ hc1 (a_ (zaM K p0.memories 29 ((eI .u32) x5) (fun x => zbb x x5) (fun x b hb => zeW x x5 b hb) x7 hx8) (a_ hc1 t_)))))))))) t_) (by kernel_rfl) rfl
 refine AW2.cond (b:=j9) rfl (fun hc => ?_) (fun hc => ?_)
 ·replace H:=zao H hc
  refine AW2.seq ?_
  refine r_ [] [2,3] [] [] ⟨[(2,.d (.int .i64 (-1))),(3,.d (.err 45 (some 9)))],[]⟩ (a_ t_ t_) ?_
  refine AW2.ret ?_
  have H:=Option.some.inj H
  subst H
  exact retP_mk2 t_ (by kernel_rfl)
 ·replace H:=zap H hc
  refine AW2.seq ?_
  obtain ⟨x10,hx11,H⟩:=bind_some H
  refine r_ [.r (.bool x10)] [1,21] [] [.k 1] ⟨[(1,.p 1 0),(21,.d (.bool (!x10)))],[(1,.st false (eD (eMdl p0)))]⟩ (a_ (a_ (ztK K p0 x10 hx11) t_) t_) ?_
  refine AW2.cond (b:=(!x10)) rfl (fun hc => ?_) (fun hc => ?_)
  ·replace H:=zao H hc
   refine AW2.seq ?_
   refine r_ [] [2,3] [] [] ⟨[(2,.d (.int .i64 (-1))),(3,.d (.err 45 (some 7)))],[]⟩ (a_ t_ t_) ?_
   refine AW2.ret ?_
   have H:=Option.some.inj H
   subst H
   exact retP_mk2 t_ (by kernel_rfl)
  ·replace H:=zap H hc
   refine AW2.skip ?_
   refine AW2.seq ?_
   refine AW2.seq ?_
   refine r_ [] [1,28,29] [] [.k 1] ⟨[(1,.p 1 0),(28,.d (.int .i64 (p0.funcs.length:Int))),(29,.d (.int .i64 0))],[(1,.st false (eD (eMdl p0)))]⟩ (a_ t_ t_) ?_
   refine AW2.block ?_
   refine AW2.lp (σ:=Int) (fun v => ⟨[(1,.p 1 0),(28,.d (.int .i64 (p0.funcs.length:Int))),(29,.d (.int .i64 v))],[(1,.st false (eD (eMdl p0)))]⟩) (fun k v => zbO k K p0 v=some r) ?_ K 0 H
   rintro k a13 H
   cases k with
   | zero => cases H
   | succ k => 
   unfold zbO at H
   refine AW2.seq ?_
   refine r_ [] [1,28,29,30] [] [.k 1] ⟨[(1,.p 1 0),(28,.d (.int .i64 (p0.funcs.length:Int))),(29,.d (.int .i64 a13)),(30,.d (.bool (decide (a13<(p0.funcs.length:Int)))))],[(1,.st false (eD (eMdl p0)))]⟩ (a_ t_ t_) ?_
   refine AW2.seq ?_
   refine AW2.cond (b:=(decide (a13<(p0.funcs.length:Int)))) rfl (fun hc => ?_) (fun hc => ?_)
   ·replace H:=zao H hc
    refine AW2.skip ?_
    refine AW2.seq ?_
    refine AW2.block ?_
    refine AW2.seq ?_
    refine r_ [] [1,5,28,29] [] [.k 1] ⟨[(1,.p 1 0),(5,.d (.int .i64 a13)),(28,.d (.int .i64 (p0.funcs.length:Int))),(29,.d (.int .i64 a13))],[(1,.st false (eD (eMdl p0)))]⟩ (a_ t_ t_) ?_
    refine AW2.seq ?_
    obtain ⟨x14,hx15,H⟩:=bind_some H
    refine r_ [.r (.err 45 x14)] [1,5,6,28,29] [] [.k 1] ⟨[(1,.p 1 0),(5,.d (.int .i64 a13)),(6,.d (.err 45 x14)),(28,.d (.int .i64 (p0.funcs.length:Int))),(29,.d (.int .i64 a13))],[(1,.st false (eD (eMdl p0)))]⟩ (a_ (a_ (zuI K p0 a13 x14 hx15) t_) t_) ?_
    refine AW2.seq ?_
    refine r_ [] [1,5,28,29,36] [] [.k 1] ⟨[(1,.p 1 0),(5,.d (.int .i64 a13)),(28,.d (.int .i64 (p0.funcs.length:Int))),(29,.d (.int .i64 a13)),(36,.d (.bool (!x14.isNone)))],[(1,.st false (eD (eMdl p0)))]⟩ (a_ t_ t_) ?_
    refine AW2.cond (b:=(!x14.isNone)) rfl (fun hc => ?_) (fun hc => ?_)
    ·replace H:=zao H hc
     refine AW2.seq ?_
     refine r_ [] [2,3] [] [] ⟨[(2,.d (.int .i64 a13)),(3,.d (.err 45 (some 7)))],[]⟩ (a_ t_ t_) ?_
     refine AW2.ret ?_
     have H:=Option.some.inj H
     subst H
     exact retP_mk2 t_ (by kernel_rfl)
    ·replace H:=zap H hc
     refine AW2.skip ?_
     refine r_ [] [1,28,29] [] [.k 1] ⟨[(1,.p 1 0),(28,.d (.int .i64 (p0.funcs.length:Int))),(29,.d (.int .i64 (wI (a13+1))))],[(1,.st false (eD (eMdl p0)))]⟩ (a_ t_ t_) ?_
     exact ⟨k,(wI (a13+1)),Nat.lt_succ_self k,H,zbc [1,28,29] [] [.k 1] t_ (by kernel_rfl)⟩
   ·replace H:=zap H hc
    refine AW2.exit ?_
    refine AW2.seq ?_
    refine r_ [] [2,3] [] [] ⟨[(2,.d (.int .i64 (-1))),(3,.d .nili)],[]⟩ (a_ t_ t_) ?_
    refine AW2.ret ?_
    have H:=Option.some.inj H
    subst H
    exact retP_mk2 t_ (by kernel_rfl)
end Go.Proofs.YtablleokoifolaaGreatDoor
set_option linter.unusedVariables false
set_option linter.unusedSimpArgs false
set_option maxRecDepth 100000
namespace Go.Proofs.YtablleokoifolaaGreatDoor
open Go
theorem idxL {p:Lim→Bool} {f:Lim→Option Bool} (hf:∀ x,f x=some (p x)) (l:List Lim) (hl:l.length<1000000000):∀ (k i:Nat),i≤l.length→l.length - i<k →
  ∃ j,zai k l f (i:Int)=some j∧decide (j≥0)=(l.drop i).any p:=by
 intro k
 induction k with
 | zero => intro i _ h; omega
 | succ k ih => 
  intro i h1 h2
  simp only [zai]
  by_cases h:i<l.length
  ·rw [if_pos (dltT h),zax (by omega),hf,Option.bind_some,dropS l i h,List.any_cons]
   cases p (l.getD (i:Int).toNat default) with
   | true => exact ⟨(i:Int),by rw [if_pos rfl],by rw [Bool.true_or]; exact decide_eq_true (by omega)⟩
   | false => 
    rw [if_neg (by decide),wI_nat i (by omega),Bool.false_or]
    exact ih (i+1) h (by omega)
  ·rw [if_neg (dltF h),List.drop_of_length_le (by omega)]
   exact ⟨-1,rfl,rfl⟩
theorem containsL {p:Lim→Bool} {f:Lim→Option Bool} (hf:∀ x,f x=some (p x)) (l:List Lim) (hl:l.length<1000000000) (K:Nat) (hK:l.length<K):zae K l f=some (l.any p):=by
 unfold zae zaq
 obtain ⟨j,h1,h2⟩:=idxL hf l hl K 0 (Nat.zero_le _) (by omega)
 rw [show (0:Int)=((0:Nat):Int) from rfl,h1,Option.bind_some]
 exact congrArg some h2
theorem idxU {p:Int→Bool} {f:Int→Option Bool} (hf:∀ x,f x=some (p x)) (l:List Int) (hl:l.length<1000000000):∀ (k i:Nat),i≤l.length→l.length - i<k →
  ∃ j,zaB k l f (i:Int)=some j∧decide (j≥0)=(l.drop i).any p:=by
 intro k
 induction k with
 | zero => intro i _ h; omega
 | succ k ih => 
  intro i h1 h2
  simp only [zaB]
  by_cases h:i<l.length
  ·rw [if_pos (dltT h),zax (by omega),hf,Option.bind_some,dropS l i h,List.any_cons]
   cases p (l.getD (i:Int).toNat default) with
   | true => exact ⟨(i:Int),by rw [if_pos rfl],by rw [Bool.true_or]; exact decide_eq_true (by omega)⟩
   | false => 
    rw [if_neg (by decide),wI_nat i (by omega),Bool.false_or]
    exact ih (i+1) h (by omega)
  ·rw [if_neg (dltF h),List.drop_of_length_le (by omega)]
   exact ⟨-1,rfl,rfl⟩
theorem containsU {p:Int→Bool} {f:Int→Option Bool} (hf:∀ x,f x=some (p x)) (l:List Int) (hl:l.length<1000000000) (K:Nat) (hK:l.length<K):zaC K l f=some (l.any p):=by
 unfold zaC zaW
 obtain ⟨j,h1,h2⟩:=idxU hf l hl K 0 (Nat.zero_le _) (by omega)
 rw [show (0:Int)=((0:Nat):Int) from rfl,h1,Option.bind_some]
 exact congrArg some h2
structure MSx (S:Nat) (m:Mdl):Prop extends MSz S m where
 tables:m.tables.length<S
 memories:m.memories.length<S
 elems:m.elems.length<S
 ele:∀ e∈m.elems,e.funcs.length<S
 datas:m.datas.length<S
 exports:m.exports.length<S
 xpo:∀ e∈m.exports,0≤e.what
def bndB (l:Lim):Bool:=l.has&&decide (l.min_>l.max_)
def valB (x:Instr) (k:Int):Bool:=(zbR x k).getD false
theorem zwz (x:Instr) (k:Int):zbR x k=some (valB x k):=rfl
def fuB (m:Mdl) (f:Fnc):Bool:=!decide (f.type_≥IntKind.wrap .u32 (m.types.length:Int))
def glB (g:Glo):Bool:=valB g.init_ g.kind
def elB (m:Mdl) (e:Ele):Bool:=!(e.table != 0||(((m.tables.length:Int)==0)||(!valB e.offset 127||e.funcs.any fun x => decide (x≥IntKind.wrap .u32 (m.funcs.length:Int)))))
def daB (m:Mdl) (d:Dat):Bool:=!(d.memory != 0||(((m.memories.length:Int)==0)||!valB d.offset 127))
def exB (m:Mdl):Bool:=xpAll (many4 m.funcs.length m.tables.length m.memories.length m.globals.length) [] m.exports
def outerB (m:Mdl):Bool:=kindsB m&&(!decide ((m.tables.length:Int)>1)&&(!decide ((m.memories.length:Int)>1)&&(!m.tables.any bndB&&(!m.memories.any bndB&&(m.funcs.all (fuB m)&&(m.globals.all glB&&(m.elems.all (elB m)&&(m.datas.all (daB m)&&exB m))))))))
theorem zyr {S K:Nat} {m:Mdl} (z:MSx S m):∀ (k i:Nat),i≤m.datas.length→m.datas.length - i<k→zca k m (i:Int)=some ((m.datas.drop i).all (daB m)&&exB m):=by
 intro k
 have s1:=z.S0; have s2:=z.datas; have s3:=z.exports
 induction k with
 | zero => intro i _ h; omega
 | succ k ih => 
  intro i h1 h2
  simp only [zca]
  by_cases h:i<m.datas.length
  ·rw [if_pos (dltT h),zax (by omega),dropS _ i h,List.all_cons]
   have e:(if ((m.datas.getD (i:Int).toNat default).memory != (0:Int))=true then some true else (if ((m.memories.length:Int)==(0:Int))=true then some true else ((zbR (m.datas.getD (i:Int).toNat default).offset 127).bind fun x30 => some (!x30))))=some (!daB m (m.datas.getD (i:Int).toNat default)):=by
    unfold daB
    rw [zwz,Bool.not_not]
    cases (m.datas.getD (i:Int).toNat default).memory != (0:Int) <;> cases (m.memories.length:Int)==(0:Int) <;> rfl
   refine (congrArg (fun o => Option.bind o _) e).trans ?_
   rw [Option.bind_some]
   cases daB m (m.datas.getD (i:Int).toNat default) with
   | false => rfl
   | true => 
    rw [if_neg (by decide),wI_nat i (by omega),Bool.true_and]
    exact ih (i+1) h (by omega)
  ·rw [if_neg (dltF h),List.drop_of_length_le (by omega)]
   unfold zfd
   rw [zax ⟨by omega,z.xpo⟩]
   rfl
theorem zys {S K:Nat} {m:Mdl} (z:MSx S m) (hK:S≤K):∀ (k i:Nat),i≤m.elems.length→m.elems.length - i<k→zcb k K m (i:Int)=some ((m.elems.drop i).all (elB m)&&(m.datas.all (daB m)&&exB m)):=by
 intro k
 have s1:=z.S0; have s2:=z.elems; have s3:=z.datas
 induction k with
 | zero => intro i _ h; omega
 | succ k ih => 
  intro i h1 h2
  simp only [zcb]
  by_cases h:i<m.elems.length
  ·have s4:=z.ele _ (getD_mem m.elems i h)
   rw [if_pos (dltT h),zax (by omega),dropS _ i h,List.all_cons]
   have e:(if ((m.elems.getD (i:Int).toNat default).table != (0:Int))=true then some true else (if ((m.tables.length:Int)==(0:Int))=true then some true else ((zbR (m.elems.getD (i:Int).toNat default).offset 127).bind fun x19 => (if (!x19)=true then some true else ((zaC K (m.elems.getD (i:Int).toNat default).funcs (fun x => zct x m)).bind fun x21 => some x21)))))=some (!elB m (m.elems.getD (i:Int).toNat default)):=by
    unfold elB
    rw [zwz,Bool.not_not,containsU (f:=fun x => zct x m) (p:=fun x => decide (x≥IntKind.wrap .u32 (m.funcs.length:Int))) (fun x => rfl) _ (by omega) K (by omega)]
    cases (m.elems.getD (i:Int).toNat default).table != (0:Int) <;> cases (m.tables.length:Int)==(0:Int) <;> cases valB (m.elems.getD (i:Int).toNat default).offset 127 <;> rfl
   refine (congrArg (fun o => Option.bind o _) e).trans ?_
   rw [Option.bind_some]
   cases elB m (m.elems.getD (i:Int).toNat default) with
   | false => rfl
   | true => 
    rw [if_neg (by decide),wI_nat i (by omega),Bool.true_and]
    exact ih (i+1) h (by omega)
  ·rw [if_neg (dltF h),List.drop_of_length_le (by omega)]
   exact zyr (K:=K) z K 0 (Nat.zero_le _) (by omega)
theorem zyt {S K:Nat} {m:Mdl} (z:MSx S m) (hK:S≤K):∀ (k i:Nat),i≤m.globals.length→m.globals.length - i<k→zcc k K m (i:Int)=some ((m.globals.drop i).all glB&&(m.elems.all (elB m)&&(m.datas.all (daB m)&&exB m))):=by
 intro k
 have s1:=z.S0; have s2:=z.globals; have s3:=z.elems
 induction k with
 | zero => intro i _ h; omega
 | succ k ih => 
  intro i h1 h2
  simp only [zcc]
  by_cases h:i<m.globals.length
  ·rw [if_pos (dltT h),zax (by omega),dropS _ i h,List.all_cons,zwz,Option.bind_some]
   show (if (!glB (m.globals.getD (i:Int).toNat default))=true then _ else _)=_
   cases glB (m.globals.getD (i:Int).toNat default) with
   | false => rfl
   | true => 
    rw [if_neg (by decide),wI_nat i (by omega),Bool.true_and]
    exact ih (i+1) h (by omega)
  ·rw [if_neg (dltF h),List.drop_of_length_le (by omega)]
   exact zys z hK K 0 (Nat.zero_le _) (by omega)
theorem zyu {S K:Nat} {m:Mdl} (z:MSx S m) (hK:S≤K):∀ (k i:Nat),i≤m.funcs.length→m.funcs.length - i<k→zcd k K m (i:Int)=some ((m.funcs.drop i).all (fuB m)&&(m.globals.all glB&&(m.elems.all (elB m)&&(m.datas.all (daB m)&&exB m)))):=by
 intro k
 have s1:=z.S0; have s2:=z.funcs; have s3:=z.globals
 induction k with
 | zero => intro i _ h; omega
 | succ k ih => 
  intro i h1 h2
  simp only [zcd]
  by_cases h:i<m.funcs.length
  ·rw [if_pos (dltT h),zax (by omega),dropS _ i h,List.all_cons]
   unfold fuB
   cases decide ((m.funcs.getD (i:Int).toNat default).type_≥IntKind.wrap .u32 (m.types.length:Int)) with
   | true => rfl
   | false => 
    rw [if_neg (by decide),wI_nat i (by omega),Bool.not_false,Bool.true_and]
    exact ih (i+1) h (by omega)
  ·rw [if_neg (dltF h),List.drop_of_length_le (by omega)]
   exact zyt z hK K 0 (Nat.zero_le _) (by omega)
theorem zyv {S K:Nat} {m:Mdl} (z:MSx S m) (hK:S≤K):zeD K m=some (outerB m):=by
 have s1:=z.S0; have s2:=z.tables; have s3:=z.memories; have s4:=z.funcs
 unfold zeD outerB
 rw [vkinds z.toMSz hK,Option.bind_some]
 rw [containsL (f:=fun x => zbK x) (p:=bndB) (fun x => rfl) _ (by omega) K (by omega),containsL (f:=fun x => zbK x) (p:=bndB) (fun x => rfl) _ (by omega) K (by omega)]
 have h0:=zyu z hK K 0 (Nat.zero_le _) (by omega)
 rw [show ((0:Nat):Int)=0 from rfl] at h0
 rw [h0,List.drop_zero]
 cases kindsB m <;> cases decide ((m.tables.length:Int)>1) <;> cases decide ((m.memories.length:Int)>1) <;> cases m.tables.any bndB <;> cases m.memories.any bndB <;> rfl
def lim2 (m:Mdl):Bool:=(m.tables.any fun l => decide (l.min_>256))||(m.memories.any fun l => decide (l.min_>16))
theorem zvP {S K:Nat} {m:Mdl} (z:MSx S m) (hK:S≤K):zaU K m=if lim2 m=true then some (-1,some 9) else if outerB m=true then zbO K K m 0 else some (-1,some 7):=by
 have s1:=z.S0; have s2:=z.tables; have s3:=z.memories
 unfold zaU lim2
 have e1:zcv 256=some 256:=rfl
 have e2:zcv 16=some 16:=rfl
 rw [e1,e2,Option.bind_some,Option.bind_some]
 rw [containsL (f:=fun x => zbb x 256) (p:=fun l => decide (l.min_>256)) (fun x => rfl) _ (by omega) K (by omega),containsL (f:=fun x => zbb x 16) (p:=fun l => decide (l.min_>16)) (fun x => rfl) _ (by omega) K (by omega),zyv z hK]
 cases (m.tables.any fun l => decide (l.min_>256)) <;> cases (m.memories.any fun l => decide (l.min_>16)) <;> cases outerB m <;> rfl
def BOk (S K:Nat) (m:Mdl):Prop:=∀ fn∈m.funcs,IWL fn.body∧wtL fn.body+S+600≤K∧0≤fn.type_
theorem zxE {S K:Nat} {m:Mdl} (z:MSx S m) (hI:BOk S K m) (hK:S+600≤K) (hK2:K<1000000000):∀ (k i:Nat),i≤m.funcs.length→m.funcs.length - i<k →
  ∃ (at_:Int) (e:Option Int),zbO k K m (i:Int)=some (at_,e):=by
 intro k
 have s1:=z.S0; have s2:=z.funcs
 induction k with
 | zero => intro i _ h; omega
 | succ k ih => 
  intro i h1 h2
  simp only [zbO]
  by_cases h:i<m.funcs.length
  ·obtain ⟨e,mo,a1,_,_,a4⟩:=zxd z.toMSz (i:Int) hI hK hK2
   rw [if_pos (dltT h),a1,Option.bind_some]
   by_cases he:(!e.isNone)=true
   ·rw [if_pos he]; exact ⟨_,_,rfl⟩
   ·rw [if_neg he,wI_nat i (by omega)]
    exact ih (i+1) h (by omega)
  ·rw [if_neg (dltF h)]; exact ⟨_,_,rfl⟩
end Go.Proofs.YtablleokoifolaaGreatDoor
set_option linter.unusedVariables false
set_option maxRecDepth 100000
set_option maxHeartbeats 4000000
namespace Go.Proofs.YtablleokoifolaaGreatDoor
open Go
theorem zlv (K:Nat) (p0:Mdl) (r:Mdl) (H:zbw K p0=some r):CM E 3 [.agg (eD (eMdl p0))] [] [36,69,86,103,135,152,184,216] [] (fun a b => a=.agg [.ls 36 0 r.types.length,.ls 69 0 r.funcs.length,.ls 86 0 r.tables.length,.ls 103 0 r.memories.length,.ls 135 0 r.globals.length,.ls 152 0 r.exports.length,.ls 184 0 r.elems.length,.ls 216 0 r.datas.length]∧b=[(36,.sl false 2 r.types.length (fl eTyp r.types)),(69,.sl false 3 r.funcs.length (fl eFnc r.funcs)),(86,.sl false 3 r.tables.length (fl eLim r.tables)),(103,.sl false 3 r.memories.length (fl eLim r.memories)),(135,.sl false 10 r.globals.length (fl eGlo r.globals)),(152,.sl false 3 r.exports.length (fl eXpo r.exports)),(184,.sl false 10 r.elems.length (fl eEle r.elems)),(216,.sl false 10 r.datas.length (fl eDat r.datas))]):=by
 refine zkr (A:=zgT) zmi fun fr => ?_
 unfold zbw at H
 refine AW2.seq ?_
 refine AW2.rg [.k 1,.k 2] [1,2] [] [.k 1,.k 2] ⟨[(1,.p 1 0),(2,.p 2 0)],[(1,.st false (eD (eMdl p0))),(2,.st false [.d .nils,.d .nils,.d .nils,.d .nils,.d .nils,.d .nils,.d .nils,.d .nils])]⟩ (And.intro True.intro True.intro) (by kernel_rfl) ?_
 refine AW2.seq ?_
 refine AW2.rg [.k 3] [1,2,3] [] [.k 1,.k 2,.k 3] ⟨[(1,.p 1 0),(2,.p 2 0),(3,.p 3 0)],[(1,.st false (eD (eMdl p0))),(2,.st false [.d .nils,.d .nils,.d .nils,.d .nils,.d .nils,.d .nils,.d .nils,.d .nils]),(3,.st false [.d .nils,.d .nils,.d .nils,.d .nils,.d .nils,.d .nils,.d .nils,.d .nils])]⟩ (And.intro True.intro True.intro) (by kernel_rfl) ?_
 obtain ⟨j1,H93,H⟩:=bind_some H
 refine AW2.mid ⟨[(1,.p 1 0),(2,.p 2 0),(3,.p 3 0)],[(1,.st false (eD (eMdl p0))),(2,.st false [.d .nils,.d .nils,.d .nils,.d .nils,.d .nils,.d .nils,.d .nils,.d .nils]),(3,.st false [.ls 36 0 j1.length,.d .nils,.d .nils,.d .nils,.d .nils,.d .nils,.d .nils,.d .nils]),(36,.sl false 2 j1.length (fl eTyp j1))]⟩ ?_ ?_
 ·obtain ⟨j2,H82,H⟩:=bind_some H
  refine AW2.mid ⟨[(1,.p 1 0),(2,.p 2 0),(3,.p 3 0)],[(1,.st false (eD (eMdl p0))),(2,.st false [.d .nils,.d .nils,.d .nils,.d .nils,.d .nils,.d .nils,.d .nils,.d .nils]),(3,.st false [.ls 36 0 j1.length,.ls 69 0 j2.length,.d .nils,.d .nils,.d .nils,.d .nils,.d .nils,.d .nils]),(36,.sl false 2 j1.length (fl eTyp j1)),(69,.sl false 3 j2.length (fl eFnc j2))]⟩ ?_ ?_
  ·obtain ⟨j3,H68,H⟩:=bind_some H
   refine AW2.mid ⟨[(1,.p 1 0),(2,.p 2 0),(3,.p 3 0)],[(1,.st false (eD (eMdl p0))),(2,.st false [.d .nils,.d .nils,.d .nils,.d .nils,.d .nils,.d .nils,.d .nils,.d .nils]),(3,.st false [.ls 36 0 j1.length,.ls 69 0 j2.length,.ls 86 0 j3.length,.d .nils,.d .nils,.d .nils,.d .nils,.d .nils]),(36,.sl false 2 j1.length (fl eTyp j1)),(69,.sl false 3 j2.length (fl eFnc j2)),(86,.sl false 3 j3.length (fl eLim j3))]⟩ ?_ ?_
   ·obtain ⟨j4,H60,H⟩:=bind_some H
    refine AW2.mid ⟨[(1,.p 1 0),(2,.p 2 0),(3,.p 3 0)],[(1,.st false (eD (eMdl p0))),(2,.st false [.d .nils,.d .nils,.d .nils,.d .nils,.d .nils,.d .nils,.d .nils,.d .nils]),(3,.st false [.ls 36 0 j1.length,.ls 69 0 j2.length,.ls 86 0 j3.length,.ls 103 0 j4.length,.d .nils,.d .nils,.d .nils,.d .nils]),(36,.sl false 2 j1.length (fl eTyp j1)),(69,.sl false 3 j2.length (fl eFnc j2)),(86,.sl false 3 j3.length (fl eLim j3)),(103,.sl false 3 j4.length (fl eLim j4))]⟩ ?_ ?_
    ·obtain ⟨j5,H52,H⟩:=bind_some H
     refine AW2.mid ⟨[(1,.p 1 0),(2,.p 2 0),(3,.p 3 0)],[(1,.st false (eD (eMdl p0))),(2,.st false [.d .nils,.d .nils,.d .nils,.d .nils,.d .nils,.d .nils,.d .nils,.d .nils]),(3,.st false [.ls 36 0 j1.length,.ls 69 0 j2.length,.ls 86 0 j3.length,.ls 103 0 j4.length,.ls 135 0 j5.length,.d .nils,.d .nils,.d .nils]),(36,.sl false 2 j1.length (fl eTyp j1)),(69,.sl false 3 j2.length (fl eFnc j2)),(86,.sl false 3 j3.length (fl eLim j3)),(103,.sl false 3 j4.length (fl eLim j4)),(135,.sl false 10 j5.length (fl eGlo j5))]⟩ ?_ ?_
     ·obtain ⟨j6,H40,H⟩:=bind_some H
      refine AW2.mid ⟨[(1,.p 1 0),(2,.p 2 0),(3,.p 3 0)],[(1,.st false (eD (eMdl p0))),(2,.st false [.d .nils,.d .nils,.d .nils,.d .nils,.d .nils,.d .nils,.d .nils,.d .nils]),(3,.st false [.ls 36 0 j1.length,.ls 69 0 j2.length,.ls 86 0 j3.length,.ls 103 0 j4.length,.ls 135 0 j5.length,.ls 152 0 j6.length,.d .nils,.d .nils]),(36,.sl false 2 j1.length (fl eTyp j1)),(69,.sl false 3 j2.length (fl eFnc j2)),(86,.sl false 3 j3.length (fl eLim j3)),(103,.sl false 3 j4.length (fl eLim j4)),(135,.sl false 10 j5.length (fl eGlo j5)),(152,.sl false 3 j6.length (fl eXpo j6))]⟩ ?_ ?_
      ·obtain ⟨j7,H32,H⟩:=bind_some H
       refine AW2.mid ⟨[(1,.p 1 0),(2,.p 2 0),(3,.p 3 0)],[(1,.st false (eD (eMdl p0))),(2,.st false [.d .nils,.d .nils,.d .nils,.d .nils,.d .nils,.d .nils,.d .nils,.d .nils]),(3,.st false [.ls 36 0 j1.length,.ls 69 0 j2.length,.ls 86 0 j3.length,.ls 103 0 j4.length,.ls 135 0 j5.length,.ls 152 0 j6.length,.ls 184 0 j7.length,.d .nils]),(36,.sl false 2 j1.length (fl eTyp j1)),(69,.sl false 3 j2.length (fl eFnc j2)),(86,.sl false 3 j3.length (fl eLim j3)),(103,.sl false 3 j4.length (fl eLim j4)),(135,.sl false 10 j5.length (fl eGlo j5)),(152,.sl false 3 j6.length (fl eXpo j6)),(184,.sl false 10 j7.length (fl eEle j7))]⟩ ?_ ?_
       ·obtain ⟨j8,H20,H⟩:=bind_some H
        refine AW2.mid ⟨[(2,.p 2 0),(3,.p 3 0)],[(2,.st false [.d .nils,.d .nils,.d .nils,.d .nils,.d .nils,.d .nils,.d .nils,.d .nils]),(3,.st false [.ls 36 0 j1.length,.ls 69 0 j2.length,.ls 86 0 j3.length,.ls 103 0 j4.length,.ls 135 0 j5.length,.ls 152 0 j6.length,.ls 184 0 j7.length,.ls 216 0 j8.length]),(36,.sl false 2 j1.length (fl eTyp j1)),(69,.sl false 3 j2.length (fl eFnc j2)),(86,.sl false 3 j3.length (fl eLim j3)),(103,.sl false 3 j4.length (fl eLim j4)),(135,.sl false 10 j5.length (fl eGlo j5)),(152,.sl false 3 j6.length (fl eXpo j6)),(184,.sl false 10 j7.length (fl eEle j7)),(216,.sl false 10 j8.length (fl eDat j8))]⟩ ?_ ?_
        ·refine AW2.seq ?_
         refine AW2.rg [] [2] [] [.k 2,.k 36,.k 69,.k 86,.k 103,.k 135,.k 152,.k 184,.k 216] ⟨[(2,.p 2 0)],[(2,.st false [.ls 36 0 j1.length,.ls 69 0 j2.length,.ls 86 0 j3.length,.ls 103 0 j4.length,.ls 135 0 j5.length,.ls 152 0 j6.length,.ls 184 0 j7.length,.ls 216 0 j8.length]),(36,.sl false 2 j1.length (fl eTyp j1)),(69,.sl false 3 j2.length (fl eFnc j2)),(86,.sl false 3 j3.length (fl eLim j3)),(103,.sl false 3 j4.length (fl eLim j4)),(135,.sl false 10 j5.length (fl eGlo j5)),(152,.sl false 3 j6.length (fl eXpo j6)),(184,.sl false 10 j7.length (fl eEle j7)),(216,.sl false 10 j8.length (fl eDat j8))]⟩ (And.intro True.intro True.intro) (by kernel_rfl) ?_
         refine AW2.ret ?_
         have H:=Option.some.inj H
         subst H
         exact retS_mk3 [] [.k 36,.k 69,.k 86,.k 103,.k 135,.k 152,.k 184,.k 216] True.intro (by kernel_rfl) (by kernel_rfl)
        ·have H:=H20
         refine AW2.seq ?_
         refine AW2.rg [] [1,2,3,11] [] [.k 1,.k 2,.k 3,.k 36,.k 69,.k 86,.k 103,.k 135,.k 152,.k 184] ⟨[(1,.p 1 0),(2,.p 2 0),(3,.p 3 0),(11,.d (.int .i64 0))],[(1,.st false (eD (eMdl p0))),(2,.st false [.d .nils,.d .nils,.d .nils,.d .nils,.d .nils,.d .nils,.d .nils,.d .nils]),(3,.st false [.ls 36 0 j1.length,.ls 69 0 j2.length,.ls 86 0 j3.length,.ls 103 0 j4.length,.ls 135 0 j5.length,.ls 152 0 j6.length,.ls 184 0 j7.length,.d .nils]),(36,.sl false 2 j1.length (fl eTyp j1)),(69,.sl false 3 j2.length (fl eFnc j2)),(86,.sl false 3 j3.length (fl eLim j3)),(103,.sl false 3 j4.length (fl eLim j4)),(135,.sl false 10 j5.length (fl eGlo j5)),(152,.sl false 3 j6.length (fl eXpo j6)),(184,.sl false 10 j7.length (fl eEle j7))]⟩ (And.intro True.intro True.intro) (by kernel_rfl) ?_
         refine AW2.block ?_
         refine AW2.cv [.c 3 7 216 10 (fl eDat ([]:List Dat))] [1,2,3,11] [] [.k 1,.k 2,.k 3,.k 36,.k 69,.k 86,.k 103,.k 135,.k 152,.k 184,.k 216] ⟨[(1,.p 1 0),(2,.p 2 0),(3,.p 3 0),(11,.d (.int .i64 0))],[(1,.st false (eD (eMdl p0))),(2,.st false [.d .nils,.d .nils,.d .nils,.d .nils,.d .nils,.d .nils,.d .nils,.d .nils]),(3,.st false [.ls 36 0 j1.length,.ls 69 0 j2.length,.ls 86 0 j3.length,.ls 103 0 j4.length,.ls 135 0 j5.length,.ls 152 0 j6.length,.ls 184 0 j7.length,.ls 216 0 ([]:List Dat).length]),(36,.sl false 2 j1.length (fl eTyp j1)),(69,.sl false 3 j2.length (fl eFnc j2)),(86,.sl false 3 j3.length (fl eLim j3)),(103,.sl false 3 j4.length (fl eLim j4)),(135,.sl false 10 j5.length (fl eGlo j5)),(152,.sl false 3 j6.length (fl eXpo j6)),(184,.sl false 10 j7.length (fl eEle j7)),(216,.sl false 10 ([]:List Dat).length (fl eDat ([]:List Dat)))]⟩ True.intro (by kernel_rfl) ?_
         refine AW2.lp (σ:=(List Dat)×Int) (fun v => ⟨[(1,.p 1 0),(2,.p 2 0),(3,.p 3 0),(11,.d (.int .i64 v.2))],[(1,.st false (eD (eMdl p0))),(2,.st false [.d .nils,.d .nils,.d .nils,.d .nils,.d .nils,.d .nils,.d .nils,.d .nils]),(3,.st false [.ls 36 0 j1.length,.ls 69 0 j2.length,.ls 86 0 j3.length,.ls 103 0 j4.length,.ls 135 0 j5.length,.ls 152 0 j6.length,.ls 184 0 j7.length,.ls 216 0 v.1.length]),(36,.sl false 2 j1.length (fl eTyp j1)),(69,.sl false 3 j2.length (fl eFnc j2)),(86,.sl false 3 j3.length (fl eLim j3)),(103,.sl false 3 j4.length (fl eLim j4)),(135,.sl false 10 j5.length (fl eGlo j5)),(152,.sl false 3 j6.length (fl eXpo j6)),(184,.sl false 10 j7.length (fl eEle j7)),(216,.sl false 10 v.1.length (fl eDat v.1))]⟩) (fun k v => zbs k K p0 v.1 v.2=some j8) ?_ K (([]:List Dat),0) H
         rintro k ⟨a11,a12⟩ H
         dsimp only at H
         cases k with
         | zero => cases H
         | succ k => 
         unfold zbs at H
         refine AW2.seq ?_
         refine AW2.seq ?_
         refine AW2.rg [] [1,2,3,11,190] [] [.k 1,.k 2,.k 3,.k 36,.k 69,.k 86,.k 103,.k 135,.k 152,.k 184,.k 216] ⟨[(1,.p 1 0),(2,.p 2 0),(3,.p 3 0),(11,.d (.int .i64 a12)),(190,.d (.bool (decide (a12<(p0.datas.length:Int)))))],[(1,.st false (eD (eMdl p0))),(2,.st false [.d .nils,.d .nils,.d .nils,.d .nils,.d .nils,.d .nils,.d .nils,.d .nils]),(3,.st false [.ls 36 0 j1.length,.ls 69 0 j2.length,.ls 86 0 j3.length,.ls 103 0 j4.length,.ls 135 0 j5.length,.ls 152 0 j6.length,.ls 184 0 j7.length,.ls 216 0 a11.length]),(36,.sl false 2 j1.length (fl eTyp j1)),(69,.sl false 3 j2.length (fl eFnc j2)),(86,.sl false 3 j3.length (fl eLim j3)),(103,.sl false 3 j4.length (fl eLim j4)),(135,.sl false 10 j5.length (fl eGlo j5)),(152,.sl false 3 j6.length (fl eXpo j6)),(184,.sl false 10 j7.length (fl eEle j7)),(216,.sl false 10 a11.length (fl eDat a11))]⟩ (And.intro True.intro True.intro) (by kernel_rfl) ?_
         refine AW2.cond (b:=(decide (a12<(p0.datas.length:Int)))) rfl (fun hc => ?_) (fun hc => ?_)
         ·replace H:=zao H hc
          refine AW2.skip ?_
          refine AW2.seq ?_
          refine AW2.block ?_
          obtain ⟨h13,H⟩:=zaf H
          obtain ⟨h14,H⟩:=zaf H
          obtain ⟨x15,hx16,H⟩:=bind_some H
          obtain ⟨h17,H⟩:=zaf H
          obtain ⟨h18,H⟩:=zaf H
          refine AW2.rg [.r (.agg (eInstr x15)),.sb ([(Dat.mk ((p0.datas.getD a12.toNat default).memory) x15 ((p0.datas.getD a12.toNat default).bytes))]:List Dat).length (fl eDat ([(Dat.mk ((p0.datas.getD a12.toNat default).memory) x15 ((p0.datas.getD a12.toNat default).bytes))]:List Dat)),.s true (a11++([(Dat.mk ((p0.datas.getD a12.toNat default).memory) x15 ((p0.datas.getD a12.toNat default).bytes))]:List Dat)).length (fl eDat (a11++([(Dat.mk ((p0.datas.getD a12.toNat default).memory) x15 ((p0.datas.getD a12.toNat default).bytes))]:List Dat)))] [1,2,3,11] [] [.k 1,.k 2,.k 3,.k 36,.k 69,.k 86,.k 103,.k 135,.k 152,.k 184,.k 216] ⟨[(1,.p 1 0),(2,.p 2 0),(3,.p 3 0),(11,.d (.int .i64 a12))],[(1,.st false (eD (eMdl p0))),(2,.st false [.d .nils,.d .nils,.d .nils,.d .nils,.d .nils,.d .nils,.d .nils,.d .nils]),(3,.st false [.ls 36 0 j1.length,.ls 69 0 j2.length,.ls 86 0 j3.length,.ls 103 0 j4.length,.ls 135 0 j5.length,.ls 152 0 j6.length,.ls 184 0 j7.length,.ls 216 0 (a11++([(Dat.mk ((p0.datas.getD a12.toNat default).memory) x15 ((p0.datas.getD a12.toNat default).bytes))]:List Dat)).length]),(36,.sl false 2 j1.length (fl eTyp j1)),(69,.sl false 3 j2.length (fl eFnc j2)),(86,.sl false 3 j3.length (fl eLim j3)),(103,.sl false 3 j4.length (fl eLim j4)),(135,.sl false 10 j5.length (fl eGlo j5)),(152,.sl false 3 j6.length (fl eXpo j6)),(184,.sl false 10 j7.length (fl eEle j7)),(216,.sl false 10 (a11++([(Dat.mk ((p0.datas.getD a12.toNat default).memory) x15 ((p0.datas.getD a12.toNat default).bytes))]:List Dat)).length (fl eDat (a11++([(Dat.mk ((p0.datas.getD a12.toNat default).memory) x15 ((p0.datas.getD a12.toNat default).bytes))]:List Dat))))]⟩ (And.intro (And.intro h13 (And.intro h14 (And.intro (zmk K ((p0.datas.getD a12.toNat default).offset) x15 hx16) (And.intro h17 (And.intro (litF eDat ([(Dat.mk ((p0.datas.getD a12.toNat default).memory) x15 ((p0.datas.getD a12.toNat default).bytes))]:List Dat)) (And.intro (Nat.le_refl a11.length) (And.intro h18 (And.intro (app1 eDat a11 (Dat.mk ((p0.datas.getD a12.toNat default).memory) x15 ((p0.datas.getD a12.toNat default).bytes)) (fl eDat ([(Dat.mk ((p0.datas.getD a12.toNat default).memory) x15 ((p0.datas.getD a12.toNat default).bytes))]:List Dat)) rfl) True.intro)))))))) True.intro) (by kernel_rfl) ?_
          refine AW2.rg [] [1,2,3,11] [] [.k 1,.k 2,.k 3,.k 36,.k 69,.k 86,.k 103,.k 135,.k 152,.k 184,.k 216] ⟨[(1,.p 1 0),(2,.p 2 0),(3,.p 3 0),(11,.d (.int .i64 (wI (a12+1))))],[(1,.st false (eD (eMdl p0))),(2,.st false [.d .nils,.d .nils,.d .nils,.d .nils,.d .nils,.d .nils,.d .nils,.d .nils]),(3,.st false [.ls 36 0 j1.length,.ls 69 0 j2.length,.ls 86 0 j3.length,.ls 103 0 j4.length,.ls 135 0 j5.length,.ls 152 0 j6.length,.ls 184 0 j7.length,.ls 216 0 (a11++([(Dat.mk ((p0.datas.getD a12.toNat default).memory) x15 ((p0.datas.getD a12.toNat default).bytes))]:List Dat)).length]),(36,.sl false 2 j1.length (fl eTyp j1)),(69,.sl false 3 j2.length (fl eFnc j2)),(86,.sl false 3 j3.length (fl eLim j3)),(103,.sl false 3 j4.length (fl eLim j4)),(135,.sl false 10 j5.length (fl eGlo j5)),(152,.sl false 3 j6.length (fl eXpo j6)),(184,.sl false 10 j7.length (fl eEle j7)),(216,.sl false 10 (a11++([(Dat.mk ((p0.datas.getD a12.toNat default).memory) x15 ((p0.datas.getD a12.toNat default).bytes))]:List Dat)).length (fl eDat (a11++([(Dat.mk ((p0.datas.getD a12.toNat default).memory) x15 ((p0.datas.getD a12.toNat default).bytes))]:List Dat))))]⟩ (And.intro True.intro True.intro) (by kernel_rfl) ?_
          exact ⟨k,((a11++([(Dat.mk ((p0.datas.getD a12.toNat default).memory) x15 ((p0.datas.getD a12.toNat default).bytes))]:List Dat)),(wI (a12+1))),Nat.lt_succ_self k,H,zbc [1,2,3,11] [] [.k 1,.k 2,.k 3,.k 36,.k 69,.k 86,.k 103,.k 135,.k 152,.k 184,.k 216] True.intro (by kernel_rfl)⟩
         ·replace H:=zap H hc
          refine AW2.exit ?_
          have H:=Option.some.inj H
          subst H
          exact zbc [2,3] [] [.k 2,.k 3,.k 36,.k 69,.k 86,.k 103,.k 135,.k 152,.k 184,.k 216] True.intro (by kernel_rfl)
       ·have H:=H32
        refine AW2.seq ?_
        refine AW2.rg [] [1,2,3,10] [] [.k 1,.k 2,.k 3,.k 36,.k 69,.k 86,.k 103,.k 135,.k 152] ⟨[(1,.p 1 0),(2,.p 2 0),(3,.p 3 0),(10,.d (.int .i64 0))],[(1,.st false (eD (eMdl p0))),(2,.st false [.d .nils,.d .nils,.d .nils,.d .nils,.d .nils,.d .nils,.d .nils,.d .nils]),(3,.st false [.ls 36 0 j1.length,.ls 69 0 j2.length,.ls 86 0 j3.length,.ls 103 0 j4.length,.ls 135 0 j5.length,.ls 152 0 j6.length,.d .nils,.d .nils]),(36,.sl false 2 j1.length (fl eTyp j1)),(69,.sl false 3 j2.length (fl eFnc j2)),(86,.sl false 3 j3.length (fl eLim j3)),(103,.sl false 3 j4.length (fl eLim j4)),(135,.sl false 10 j5.length (fl eGlo j5)),(152,.sl false 3 j6.length (fl eXpo j6))]⟩ (And.intro True.intro True.intro) (by kernel_rfl) ?_
        refine AW2.block ?_
        refine AW2.cv [.c 3 6 184 10 (fl eEle ([]:List Ele))] [1,2,3,10] [] [.k 1,.k 2,.k 3,.k 36,.k 69,.k 86,.k 103,.k 135,.k 152,.k 184] ⟨[(1,.p 1 0),(2,.p 2 0),(3,.p 3 0),(10,.d (.int .i64 0))],[(1,.st false (eD (eMdl p0))),(2,.st false [.d .nils,.d .nils,.d .nils,.d .nils,.d .nils,.d .nils,.d .nils,.d .nils]),(3,.st false [.ls 36 0 j1.length,.ls 69 0 j2.length,.ls 86 0 j3.length,.ls 103 0 j4.length,.ls 135 0 j5.length,.ls 152 0 j6.length,.ls 184 0 ([]:List Ele).length,.d .nils]),(36,.sl false 2 j1.length (fl eTyp j1)),(69,.sl false 3 j2.length (fl eFnc j2)),(86,.sl false 3 j3.length (fl eLim j3)),(103,.sl false 3 j4.length (fl eLim j4)),(135,.sl false 10 j5.length (fl eGlo j5)),(152,.sl false 3 j6.length (fl eXpo j6)),(184,.sl false 10 ([]:List Ele).length (fl eEle ([]:List Ele)))]⟩ True.intro (by kernel_rfl) ?_
        refine AW2.lp (σ:=(List Ele)×Int) (fun v => ⟨[(1,.p 1 0),(2,.p 2 0),(3,.p 3 0),(10,.d (.int .i64 v.2))],[(1,.st false (eD (eMdl p0))),(2,.st false [.d .nils,.d .nils,.d .nils,.d .nils,.d .nils,.d .nils,.d .nils,.d .nils]),(3,.st false [.ls 36 0 j1.length,.ls 69 0 j2.length,.ls 86 0 j3.length,.ls 103 0 j4.length,.ls 135 0 j5.length,.ls 152 0 j6.length,.ls 184 0 v.1.length,.d .nils]),(36,.sl false 2 j1.length (fl eTyp j1)),(69,.sl false 3 j2.length (fl eFnc j2)),(86,.sl false 3 j3.length (fl eLim j3)),(103,.sl false 3 j4.length (fl eLim j4)),(135,.sl false 10 j5.length (fl eGlo j5)),(152,.sl false 3 j6.length (fl eXpo j6)),(184,.sl false 10 v.1.length (fl eEle v.1))]⟩) (fun k v => zbr k K p0 v.1 v.2=some j7) ?_ K (([]:List Ele),0) H
        rintro k ⟨a23,a24⟩ H
        dsimp only at H
        cases k with
        | zero => cases H
        | succ k => 
        unfold zbr at H
        refine AW2.seq ?_
        refine AW2.seq ?_
        refine AW2.rg [] [1,2,3,10,158] [] [.k 1,.k 2,.k 3,.k 36,.k 69,.k 86,.k 103,.k 135,.k 152,.k 184] ⟨[(1,.p 1 0),(2,.p 2 0),(3,.p 3 0),(10,.d (.int .i64 a24)),(158,.d (.bool (decide (a24<(p0.elems.length:Int)))))],[(1,.st false (eD (eMdl p0))),(2,.st false [.d .nils,.d .nils,.d .nils,.d .nils,.d .nils,.d .nils,.d .nils,.d .nils]),(3,.st false [.ls 36 0 j1.length,.ls 69 0 j2.length,.ls 86 0 j3.length,.ls 103 0 j4.length,.ls 135 0 j5.length,.ls 152 0 j6.length,.ls 184 0 a23.length,.d .nils]),(36,.sl false 2 j1.length (fl eTyp j1)),(69,.sl false 3 j2.length (fl eFnc j2)),(86,.sl false 3 j3.length (fl eLim j3)),(103,.sl false 3 j4.length (fl eLim j4)),(135,.sl false 10 j5.length (fl eGlo j5)),(152,.sl false 3 j6.length (fl eXpo j6)),(184,.sl false 10 a23.length (fl eEle a23))]⟩ (And.intro True.intro True.intro) (by kernel_rfl) ?_
        refine AW2.cond (b:=(decide (a24<(p0.elems.length:Int)))) rfl (fun hc => ?_) (fun hc => ?_)
        ·replace H:=zao H hc
         refine AW2.skip ?_
         refine AW2.seq ?_
         refine AW2.block ?_
         obtain ⟨h25,H⟩:=zaf H
         obtain ⟨h26,H⟩:=zaf H
         obtain ⟨x27,hx28,H⟩:=bind_some H
         obtain ⟨h29,H⟩:=zaf H
         obtain ⟨h30,H⟩:=zaf H
         refine AW2.rg [.r (.agg (eInstr x27)),.sb ([(Ele.mk ((p0.elems.getD a24.toNat default).table) x27 ((p0.elems.getD a24.toNat default).funcs))]:List Ele).length (fl eEle ([(Ele.mk ((p0.elems.getD a24.toNat default).table) x27 ((p0.elems.getD a24.toNat default).funcs))]:List Ele)),.s true (a23++([(Ele.mk ((p0.elems.getD a24.toNat default).table) x27 ((p0.elems.getD a24.toNat default).funcs))]:List Ele)).length (fl eEle (a23++([(Ele.mk ((p0.elems.getD a24.toNat default).table) x27 ((p0.elems.getD a24.toNat default).funcs))]:List Ele)))] [1,2,3,10] [] [.k 1,.k 2,.k 3,.k 36,.k 69,.k 86,.k 103,.k 135,.k 152,.k 184] ⟨[(1,.p 1 0),(2,.p 2 0),(3,.p 3 0),(10,.d (.int .i64 a24))],[(1,.st false (eD (eMdl p0))),(2,.st false [.d .nils,.d .nils,.d .nils,.d .nils,.d .nils,.d .nils,.d .nils,.d .nils]),(3,.st false [.ls 36 0 j1.length,.ls 69 0 j2.length,.ls 86 0 j3.length,.ls 103 0 j4.length,.ls 135 0 j5.length,.ls 152 0 j6.length,.ls 184 0 (a23++([(Ele.mk ((p0.elems.getD a24.toNat default).table) x27 ((p0.elems.getD a24.toNat default).funcs))]:List Ele)).length,.d .nils]),(36,.sl false 2 j1.length (fl eTyp j1)),(69,.sl false 3 j2.length (fl eFnc j2)),(86,.sl false 3 j3.length (fl eLim j3)),(103,.sl false 3 j4.length (fl eLim j4)),(135,.sl false 10 j5.length (fl eGlo j5)),(152,.sl false 3 j6.length (fl eXpo j6)),(184,.sl false 10 (a23++([(Ele.mk ((p0.elems.getD a24.toNat default).table) x27 ((p0.elems.getD a24.toNat default).funcs))]:List Ele)).length (fl eEle (a23++([(Ele.mk ((p0.elems.getD a24.toNat default).table) x27 ((p0.elems.getD a24.toNat default).funcs))]:List Ele))))]⟩ (And.intro (And.intro h25 (And.intro h26 (And.intro (zmk K ((p0.elems.getD a24.toNat default).offset) x27 hx28) (And.intro h29 (And.intro (litF eEle ([(Ele.mk ((p0.elems.getD a24.toNat default).table) x27 ((p0.elems.getD a24.toNat default).funcs))]:List Ele)) (And.intro (Nat.le_refl a23.length) (And.intro h30 (And.intro (app1 eEle a23 (Ele.mk ((p0.elems.getD a24.toNat default).table) x27 ((p0.elems.getD a24.toNat default).funcs)) (fl eEle ([(Ele.mk ((p0.elems.getD a24.toNat default).table) x27 ((p0.elems.getD a24.toNat default).funcs))]:List Ele)) rfl) True.intro)))))))) True.intro) (by kernel_rfl) ?_
         refine AW2.rg [] [1,2,3,10] [] [.k 1,.k 2,.k 3,.k 36,.k 69,.k 86,.k 103,.k 135,.k 152,.k 184] ⟨[(1,.p 1 0),(2,.p 2 0),(3,.p 3 0),(10,.d (.int .i64 (wI (a24+1))))],[(1,.st false (eD (eMdl p0))),(2,.st false [.d .nils,.d .nils,.d .nils,.d .nils,.d .nils,.d .nils,.d .nils,.d .nils]),(3,.st false [.ls 36 0 j1.length,.ls 69 0 j2.length,.ls 86 0 j3.length,.ls 103 0 j4.length,.ls 135 0 j5.length,.ls 152 0 j6.length,.ls 184 0 (a23++([(Ele.mk ((p0.elems.getD a24.toNat default).table) x27 ((p0.elems.getD a24.toNat default).funcs))]:List Ele)).length,.d .nils]),(36,.sl false 2 j1.length (fl eTyp j1)),(69,.sl false 3 j2.length (fl eFnc j2)),(86,.sl false 3 j3.length (fl eLim j3)),(103,.sl false 3 j4.length (fl eLim j4)),(135,.sl false 10 j5.length (fl eGlo j5)),(152,.sl false 3 j6.length (fl eXpo j6)),(184,.sl false 10 (a23++([(Ele.mk ((p0.elems.getD a24.toNat default).table) x27 ((p0.elems.getD a24.toNat default).funcs))]:List Ele)).length (fl eEle (a23++([(Ele.mk ((p0.elems.getD a24.toNat default).table) x27 ((p0.elems.getD a24.toNat default).funcs))]:List Ele))))]⟩ (And.intro True.intro True.intro) (by kernel_rfl) ?_
         exact ⟨k,((a23++([(Ele.mk ((p0.elems.getD a24.toNat default).table) x27 ((p0.elems.getD a24.toNat default).funcs))]:List Ele)),(wI (a24+1))),Nat.lt_succ_self k,H,zbc [1,2,3,10] [] [.k 1,.k 2,.k 3,.k 36,.k 69,.k 86,.k 103,.k 135,.k 152,.k 184] True.intro (by kernel_rfl)⟩
        ·replace H:=zap H hc
         refine AW2.exit ?_
         have H:=Option.some.inj H
         subst H
         exact zbc [1,2,3] [] [.k 1,.k 2,.k 3,.k 36,.k 69,.k 86,.k 103,.k 135,.k 152,.k 184] True.intro (by kernel_rfl)
      ·have H:=H40
       refine AW2.seq ?_
       refine AW2.rg [] [1,2,3,9] [] [.k 1,.k 2,.k 3,.k 36,.k 69,.k 86,.k 103,.k 135] ⟨[(1,.p 1 0),(2,.p 2 0),(3,.p 3 0),(9,.d (.int .i64 0))],[(1,.st false (eD (eMdl p0))),(2,.st false [.d .nils,.d .nils,.d .nils,.d .nils,.d .nils,.d .nils,.d .nils,.d .nils]),(3,.st false [.ls 36 0 j1.length,.ls 69 0 j2.length,.ls 86 0 j3.length,.ls 103 0 j4.length,.ls 135 0 j5.length,.d .nils,.d .nils,.d .nils]),(36,.sl false 2 j1.length (fl eTyp j1)),(69,.sl false 3 j2.length (fl eFnc j2)),(86,.sl false 3 j3.length (fl eLim j3)),(103,.sl false 3 j4.length (fl eLim j4)),(135,.sl false 10 j5.length (fl eGlo j5))]⟩ (And.intro True.intro True.intro) (by kernel_rfl) ?_
       refine AW2.block ?_
       refine AW2.cv [.c 3 5 152 3 (fl eXpo ([]:List Xpo))] [1,2,3,9] [] [.k 1,.k 2,.k 3,.k 36,.k 69,.k 86,.k 103,.k 135,.k 152] ⟨[(1,.p 1 0),(2,.p 2 0),(3,.p 3 0),(9,.d (.int .i64 0))],[(1,.st false (eD (eMdl p0))),(2,.st false [.d .nils,.d .nils,.d .nils,.d .nils,.d .nils,.d .nils,.d .nils,.d .nils]),(3,.st false [.ls 36 0 j1.length,.ls 69 0 j2.length,.ls 86 0 j3.length,.ls 103 0 j4.length,.ls 135 0 j5.length,.ls 152 0 ([]:List Xpo).length,.d .nils,.d .nils]),(36,.sl false 2 j1.length (fl eTyp j1)),(69,.sl false 3 j2.length (fl eFnc j2)),(86,.sl false 3 j3.length (fl eLim j3)),(103,.sl false 3 j4.length (fl eLim j4)),(135,.sl false 10 j5.length (fl eGlo j5)),(152,.sl false 3 ([]:List Xpo).length (fl eXpo ([]:List Xpo)))]⟩ True.intro (by kernel_rfl) ?_
       refine AW2.lp (σ:=(List Xpo)×Int) (fun v => ⟨[(1,.p 1 0),(2,.p 2 0),(3,.p 3 0),(9,.d (.int .i64 v.2))],[(1,.st false (eD (eMdl p0))),(2,.st false [.d .nils,.d .nils,.d .nils,.d .nils,.d .nils,.d .nils,.d .nils,.d .nils]),(3,.st false [.ls 36 0 j1.length,.ls 69 0 j2.length,.ls 86 0 j3.length,.ls 103 0 j4.length,.ls 135 0 j5.length,.ls 152 0 v.1.length,.d .nils,.d .nils]),(36,.sl false 2 j1.length (fl eTyp j1)),(69,.sl false 3 j2.length (fl eFnc j2)),(86,.sl false 3 j3.length (fl eLim j3)),(103,.sl false 3 j4.length (fl eLim j4)),(135,.sl false 10 j5.length (fl eGlo j5)),(152,.sl false 3 v.1.length (fl eXpo v.1))]⟩) (fun k v => zbq k p0 v.1 v.2=some j6) ?_ K (([]:List Xpo),0) H
       rintro k ⟨a35,a36⟩ H
       dsimp only at H
       cases k with
       | zero => cases H
       | succ k => 
       unfold zbq at H
       refine AW2.seq ?_
       refine AW2.seq ?_
       refine AW2.rg [] [1,2,3,9,141] [] [.k 1,.k 2,.k 3,.k 36,.k 69,.k 86,.k 103,.k 135,.k 152] ⟨[(1,.p 1 0),(2,.p 2 0),(3,.p 3 0),(9,.d (.int .i64 a36)),(141,.d (.bool (decide (a36<(p0.exports.length:Int)))))],[(1,.st false (eD (eMdl p0))),(2,.st false [.d .nils,.d .nils,.d .nils,.d .nils,.d .nils,.d .nils,.d .nils,.d .nils]),(3,.st false [.ls 36 0 j1.length,.ls 69 0 j2.length,.ls 86 0 j3.length,.ls 103 0 j4.length,.ls 135 0 j5.length,.ls 152 0 a35.length,.d .nils,.d .nils]),(36,.sl false 2 j1.length (fl eTyp j1)),(69,.sl false 3 j2.length (fl eFnc j2)),(86,.sl false 3 j3.length (fl eLim j3)),(103,.sl false 3 j4.length (fl eLim j4)),(135,.sl false 10 j5.length (fl eGlo j5)),(152,.sl false 3 a35.length (fl eXpo a35))]⟩ (And.intro True.intro True.intro) (by kernel_rfl) ?_
       refine AW2.cond (b:=(decide (a36<(p0.exports.length:Int)))) rfl (fun hc => ?_) (fun hc => ?_)
       ·replace H:=zao H hc
        refine AW2.skip ?_
        refine AW2.seq ?_
        refine AW2.block ?_
        obtain ⟨h37,H⟩:=zaf H
        obtain ⟨h38,H⟩:=zaf H
        refine AW2.rg [.sb ([(p0.exports.getD a36.toNat default)]:List Xpo).length (fl eXpo ([(p0.exports.getD a36.toNat default)]:List Xpo)),.s true (a35++([(p0.exports.getD a36.toNat default)]:List Xpo)).length (fl eXpo (a35++([(p0.exports.getD a36.toNat default)]:List Xpo)))] [1,2,3,9] [] [.k 1,.k 2,.k 3,.k 36,.k 69,.k 86,.k 103,.k 135,.k 152] ⟨[(1,.p 1 0),(2,.p 2 0),(3,.p 3 0),(9,.d (.int .i64 a36))],[(1,.st false (eD (eMdl p0))),(2,.st false [.d .nils,.d .nils,.d .nils,.d .nils,.d .nils,.d .nils,.d .nils,.d .nils]),(3,.st false [.ls 36 0 j1.length,.ls 69 0 j2.length,.ls 86 0 j3.length,.ls 103 0 j4.length,.ls 135 0 j5.length,.ls 152 0 (a35++([(p0.exports.getD a36.toNat default)]:List Xpo)).length,.d .nils,.d .nils]),(36,.sl false 2 j1.length (fl eTyp j1)),(69,.sl false 3 j2.length (fl eFnc j2)),(86,.sl false 3 j3.length (fl eLim j3)),(103,.sl false 3 j4.length (fl eLim j4)),(135,.sl false 10 j5.length (fl eGlo j5)),(152,.sl false 3 (a35++([(p0.exports.getD a36.toNat default)]:List Xpo)).length (fl eXpo (a35++([(p0.exports.getD a36.toNat default)]:List Xpo))))]⟩ (And.intro (And.intro h37 (And.intro (litF eXpo ([(p0.exports.getD a36.toNat default)]:List Xpo)) (And.intro (Nat.le_refl a35.length) (And.intro h38 (And.intro (app1 eXpo a35 (p0.exports.getD a36.toNat default) (fl eXpo ([(p0.exports.getD a36.toNat default)]:List Xpo)) rfl) True.intro))))) True.intro) (by kernel_rfl) ?_
        refine AW2.rg [] [1,2,3,9] [] [.k 1,.k 2,.k 3,.k 36,.k 69,.k 86,.k 103,.k 135,.k 152] ⟨[(1,.p 1 0),(2,.p 2 0),(3,.p 3 0),(9,.d (.int .i64 (wI (a36+1))))],[(1,.st false (eD (eMdl p0))),(2,.st false [.d .nils,.d .nils,.d .nils,.d .nils,.d .nils,.d .nils,.d .nils,.d .nils]),(3,.st false [.ls 36 0 j1.length,.ls 69 0 j2.length,.ls 86 0 j3.length,.ls 103 0 j4.length,.ls 135 0 j5.length,.ls 152 0 (a35++([(p0.exports.getD a36.toNat default)]:List Xpo)).length,.d .nils,.d .nils]),(36,.sl false 2 j1.length (fl eTyp j1)),(69,.sl false 3 j2.length (fl eFnc j2)),(86,.sl false 3 j3.length (fl eLim j3)),(103,.sl false 3 j4.length (fl eLim j4)),(135,.sl false 10 j5.length (fl eGlo j5)),(152,.sl false 3 (a35++([(p0.exports.getD a36.toNat default)]:List Xpo)).length (fl eXpo (a35++([(p0.exports.getD a36.toNat default)]:List Xpo))))]⟩ (And.intro True.intro True.intro) (by kernel_rfl) ?_
        exact ⟨k,((a35++([(p0.exports.getD a36.toNat default)]:List Xpo)),(wI (a36+1))),Nat.lt_succ_self k,H,zbc [1,2,3,9] [] [.k 1,.k 2,.k 3,.k 36,.k 69,.k 86,.k 103,.k 135,.k 152] True.intro (by kernel_rfl)⟩
       ·replace H:=zap H hc
        refine AW2.exit ?_
        have H:=Option.some.inj H
        subst H
        exact zbc [1,2,3] [] [.k 1,.k 2,.k 3,.k 36,.k 69,.k 86,.k 103,.k 135,.k 152] True.intro (by kernel_rfl)
     ·have H:=H52
      refine AW2.seq ?_
      refine AW2.rg [] [1,2,3,8] [] [.k 1,.k 2,.k 3,.k 36,.k 69,.k 86,.k 103] ⟨[(1,.p 1 0),(2,.p 2 0),(3,.p 3 0),(8,.d (.int .i64 0))],[(1,.st false (eD (eMdl p0))),(2,.st false [.d .nils,.d .nils,.d .nils,.d .nils,.d .nils,.d .nils,.d .nils,.d .nils]),(3,.st false [.ls 36 0 j1.length,.ls 69 0 j2.length,.ls 86 0 j3.length,.ls 103 0 j4.length,.d .nils,.d .nils,.d .nils,.d .nils]),(36,.sl false 2 j1.length (fl eTyp j1)),(69,.sl false 3 j2.length (fl eFnc j2)),(86,.sl false 3 j3.length (fl eLim j3)),(103,.sl false 3 j4.length (fl eLim j4))]⟩ (And.intro True.intro True.intro) (by kernel_rfl) ?_
      refine AW2.block ?_
      refine AW2.cv [.c 3 4 135 10 (fl eGlo ([]:List Glo))] [1,2,3,8] [] [.k 1,.k 2,.k 3,.k 36,.k 69,.k 86,.k 103,.k 135] ⟨[(1,.p 1 0),(2,.p 2 0),(3,.p 3 0),(8,.d (.int .i64 0))],[(1,.st false (eD (eMdl p0))),(2,.st false [.d .nils,.d .nils,.d .nils,.d .nils,.d .nils,.d .nils,.d .nils,.d .nils]),(3,.st false [.ls 36 0 j1.length,.ls 69 0 j2.length,.ls 86 0 j3.length,.ls 103 0 j4.length,.ls 135 0 ([]:List Glo).length,.d .nils,.d .nils,.d .nils]),(36,.sl false 2 j1.length (fl eTyp j1)),(69,.sl false 3 j2.length (fl eFnc j2)),(86,.sl false 3 j3.length (fl eLim j3)),(103,.sl false 3 j4.length (fl eLim j4)),(135,.sl false 10 ([]:List Glo).length (fl eGlo ([]:List Glo)))]⟩ True.intro (by kernel_rfl) ?_
      refine AW2.lp (σ:=(List Glo)×Int) (fun v => ⟨[(1,.p 1 0),(2,.p 2 0),(3,.p 3 0),(8,.d (.int .i64 v.2))],[(1,.st false (eD (eMdl p0))),(2,.st false [.d .nils,.d .nils,.d .nils,.d .nils,.d .nils,.d .nils,.d .nils,.d .nils]),(3,.st false [.ls 36 0 j1.length,.ls 69 0 j2.length,.ls 86 0 j3.length,.ls 103 0 j4.length,.ls 135 0 v.1.length,.d .nils,.d .nils,.d .nils]),(36,.sl false 2 j1.length (fl eTyp j1)),(69,.sl false 3 j2.length (fl eFnc j2)),(86,.sl false 3 j3.length (fl eLim j3)),(103,.sl false 3 j4.length (fl eLim j4)),(135,.sl false 10 v.1.length (fl eGlo v.1))]⟩) (fun k v => zbp k K p0 v.1 v.2=some j5) ?_ K (([]:List Glo),0) H
      rintro k ⟨a43,a44⟩ H
      dsimp only at H
      cases k with
      | zero => cases H
      | succ k => 
      unfold zbp at H
      refine AW2.seq ?_
      refine AW2.seq ?_
      refine AW2.rg [] [1,2,3,8,109] [] [.k 1,.k 2,.k 3,.k 36,.k 69,.k 86,.k 103,.k 135] ⟨[(1,.p 1 0),(2,.p 2 0),(3,.p 3 0),(8,.d (.int .i64 a44)),(109,.d (.bool (decide (a44<(p0.globals.length:Int)))))],[(1,.st false (eD (eMdl p0))),(2,.st false [.d .nils,.d .nils,.d .nils,.d .nils,.d .nils,.d .nils,.d .nils,.d .nils]),(3,.st false [.ls 36 0 j1.length,.ls 69 0 j2.length,.ls 86 0 j3.length,.ls 103 0 j4.length,.ls 135 0 a43.length,.d .nils,.d .nils,.d .nils]),(36,.sl false 2 j1.length (fl eTyp j1)),(69,.sl false 3 j2.length (fl eFnc j2)),(86,.sl false 3 j3.length (fl eLim j3)),(103,.sl false 3 j4.length (fl eLim j4)),(135,.sl false 10 a43.length (fl eGlo a43))]⟩ (And.intro True.intro True.intro) (by kernel_rfl) ?_
      refine AW2.cond (b:=(decide (a44<(p0.globals.length:Int)))) rfl (fun hc => ?_) (fun hc => ?_)
      ·replace H:=zao H hc
       refine AW2.skip ?_
       refine AW2.seq ?_
       refine AW2.block ?_
       obtain ⟨h45,H⟩:=zaf H
       obtain ⟨h46,H⟩:=zaf H
       obtain ⟨h47,H⟩:=zaf H
       obtain ⟨x48,hx49,H⟩:=bind_some H
       obtain ⟨h50,H⟩:=zaf H
       refine AW2.rg [.r (.agg (eInstr x48)),.sb ([(Glo.mk ((p0.globals.getD a44.toNat default).kind) ((p0.globals.getD a44.toNat default).mut_) x48)]:List Glo).length (fl eGlo ([(Glo.mk ((p0.globals.getD a44.toNat default).kind) ((p0.globals.getD a44.toNat default).mut_) x48)]:List Glo)),.s true (a43++([(Glo.mk ((p0.globals.getD a44.toNat default).kind) ((p0.globals.getD a44.toNat default).mut_) x48)]:List Glo)).length (fl eGlo (a43++([(Glo.mk ((p0.globals.getD a44.toNat default).kind) ((p0.globals.getD a44.toNat default).mut_) x48)]:List Glo)))] [1,2,3,8] [] [.k 1,.k 2,.k 3,.k 36,.k 69,.k 86,.k 103,.k 135] ⟨[(1,.p 1 0),(2,.p 2 0),(3,.p 3 0),(8,.d (.int .i64 a44))],[(1,.st false (eD (eMdl p0))),(2,.st false [.d .nils,.d .nils,.d .nils,.d .nils,.d .nils,.d .nils,.d .nils,.d .nils]),(3,.st false [.ls 36 0 j1.length,.ls 69 0 j2.length,.ls 86 0 j3.length,.ls 103 0 j4.length,.ls 135 0 (a43++([(Glo.mk ((p0.globals.getD a44.toNat default).kind) ((p0.globals.getD a44.toNat default).mut_) x48)]:List Glo)).length,.d .nils,.d .nils,.d .nils]),(36,.sl false 2 j1.length (fl eTyp j1)),(69,.sl false 3 j2.length (fl eFnc j2)),(86,.sl false 3 j3.length (fl eLim j3)),(103,.sl false 3 j4.length (fl eLim j4)),(135,.sl false 10 (a43++([(Glo.mk ((p0.globals.getD a44.toNat default).kind) ((p0.globals.getD a44.toNat default).mut_) x48)]:List Glo)).length (fl eGlo (a43++([(Glo.mk ((p0.globals.getD a44.toNat default).kind) ((p0.globals.getD a44.toNat default).mut_) x48)]:List Glo))))]⟩ (And.intro (And.intro h45 (And.intro h46 (And.intro h47 (And.intro (zmk K ((p0.globals.getD a44.toNat default).init_) x48 hx49) (And.intro (litF eGlo ([(Glo.mk ((p0.globals.getD a44.toNat default).kind) ((p0.globals.getD a44.toNat default).mut_) x48)]:List Glo)) (And.intro (Nat.le_refl a43.length) (And.intro h50 (And.intro (app1 eGlo a43 (Glo.mk ((p0.globals.getD a44.toNat default).kind) ((p0.globals.getD a44.toNat default).mut_) x48) (fl eGlo ([(Glo.mk ((p0.globals.getD a44.toNat default).kind) ((p0.globals.getD a44.toNat default).mut_) x48)]:List Glo)) rfl) True.intro)))))))) True.intro) (by kernel_rfl) ?_
       refine AW2.rg [] [1,2,3,8] [] [.k 1,.k 2,.k 3,.k 36,.k 69,.k 86,.k 103,.k 135] ⟨[(1,.p 1 0),(2,.p 2 0),(3,.p 3 0),(8,.d (.int .i64 (wI (a44+1))))],[(1,.st false (eD (eMdl p0))),(2,.st false [.d .nils,.d .nils,.d .nils,.d .nils,.d .nils,.d .nils,.d .nils,.d .nils]),(3,.st false [.ls 36 0 j1.length,.ls 69 0 j2.length,.ls 86 0 j3.length,.ls 103 0 j4.length,.ls 135 0 (a43++([(Glo.mk ((p0.globals.getD a44.toNat default).kind) ((p0.globals.getD a44.toNat default).mut_) x48)]:List Glo)).length,.d .nils,.d .nils,.d .nils]),(36,.sl false 2 j1.length (fl eTyp j1)),(69,.sl false 3 j2.length (fl eFnc j2)),(86,.sl false 3 j3.length (fl eLim j3)),(103,.sl false 3 j4.length (fl eLim j4)),(135,.sl false 10 (a43++([(Glo.mk ((p0.globals.getD a44.toNat default).kind) ((p0.globals.getD a44.toNat default).mut_) x48)]:List Glo)).length (fl eGlo (a43++([(Glo.mk ((p0.globals.getD a44.toNat default).kind) ((p0.globals.getD a44.toNat default).mut_) x48)]:List Glo))))]⟩ (And.intro True.intro True.intro) (by kernel_rfl) ?_
       exact ⟨k,((a43++([(Glo.mk ((p0.globals.getD a44.toNat default).kind) ((p0.globals.getD a44.toNat default).mut_) x48)]:List Glo)),(wI (a44+1))),Nat.lt_succ_self k,H,zbc [1,2,3,8] [] [.k 1,.k 2,.k 3,.k 36,.k 69,.k 86,.k 103,.k 135] True.intro (by kernel_rfl)⟩
      ·replace H:=zap H hc
       refine AW2.exit ?_
       have H:=Option.some.inj H
       subst H
       exact zbc [1,2,3] [] [.k 1,.k 2,.k 3,.k 36,.k 69,.k 86,.k 103,.k 135] True.intro (by kernel_rfl)
    ·have H:=H60
     refine AW2.seq ?_
     refine AW2.rg [] [1,2,3,7] [] [.k 1,.k 2,.k 3,.k 36,.k 69,.k 86] ⟨[(1,.p 1 0),(2,.p 2 0),(3,.p 3 0),(7,.d (.int .i64 0))],[(1,.st false (eD (eMdl p0))),(2,.st false [.d .nils,.d .nils,.d .nils,.d .nils,.d .nils,.d .nils,.d .nils,.d .nils]),(3,.st false [.ls 36 0 j1.length,.ls 69 0 j2.length,.ls 86 0 j3.length,.d .nils,.d .nils,.d .nils,.d .nils,.d .nils]),(36,.sl false 2 j1.length (fl eTyp j1)),(69,.sl false 3 j2.length (fl eFnc j2)),(86,.sl false 3 j3.length (fl eLim j3))]⟩ (And.intro True.intro True.intro) (by kernel_rfl) ?_
     refine AW2.block ?_
     refine AW2.cv [.c 3 3 103 3 (fl eLim ([]:List Lim))] [1,2,3,7] [] [.k 1,.k 2,.k 3,.k 36,.k 69,.k 86,.k 103] ⟨[(1,.p 1 0),(2,.p 2 0),(3,.p 3 0),(7,.d (.int .i64 0))],[(1,.st false (eD (eMdl p0))),(2,.st false [.d .nils,.d .nils,.d .nils,.d .nils,.d .nils,.d .nils,.d .nils,.d .nils]),(3,.st false [.ls 36 0 j1.length,.ls 69 0 j2.length,.ls 86 0 j3.length,.ls 103 0 ([]:List Lim).length,.d .nils,.d .nils,.d .nils,.d .nils]),(36,.sl false 2 j1.length (fl eTyp j1)),(69,.sl false 3 j2.length (fl eFnc j2)),(86,.sl false 3 j3.length (fl eLim j3)),(103,.sl false 3 ([]:List Lim).length (fl eLim ([]:List Lim)))]⟩ True.intro (by kernel_rfl) ?_
     refine AW2.lp (σ:=(List Lim)×Int) (fun v => ⟨[(1,.p 1 0),(2,.p 2 0),(3,.p 3 0),(7,.d (.int .i64 v.2))],[(1,.st false (eD (eMdl p0))),(2,.st false [.d .nils,.d .nils,.d .nils,.d .nils,.d .nils,.d .nils,.d .nils,.d .nils]),(3,.st false [.ls 36 0 j1.length,.ls 69 0 j2.length,.ls 86 0 j3.length,.ls 103 0 v.1.length,.d .nils,.d .nils,.d .nils,.d .nils]),(36,.sl false 2 j1.length (fl eTyp j1)),(69,.sl false 3 j2.length (fl eFnc j2)),(86,.sl false 3 j3.length (fl eLim j3)),(103,.sl false 3 v.1.length (fl eLim v.1))]⟩) (fun k v => zbo k p0 v.1 v.2=some j4) ?_ K (([]:List Lim),0) H
     rintro k ⟨a55,a56⟩ H
     dsimp only at H
     cases k with
     | zero => cases H
     | succ k => 
     unfold zbo at H
     refine AW2.seq ?_
     refine AW2.seq ?_
     refine AW2.rg [] [1,2,3,7,92] [] [.k 1,.k 2,.k 3,.k 36,.k 69,.k 86,.k 103] ⟨[(1,.p 1 0),(2,.p 2 0),(3,.p 3 0),(7,.d (.int .i64 a56)),(92,.d (.bool (decide (a56<(p0.memories.length:Int)))))],[(1,.st false (eD (eMdl p0))),(2,.st false [.d .nils,.d .nils,.d .nils,.d .nils,.d .nils,.d .nils,.d .nils,.d .nils]),(3,.st false [.ls 36 0 j1.length,.ls 69 0 j2.length,.ls 86 0 j3.length,.ls 103 0 a55.length,.d .nils,.d .nils,.d .nils,.d .nils]),(36,.sl false 2 j1.length (fl eTyp j1)),(69,.sl false 3 j2.length (fl eFnc j2)),(86,.sl false 3 j3.length (fl eLim j3)),(103,.sl false 3 a55.length (fl eLim a55))]⟩ (And.intro True.intro True.intro) (by kernel_rfl) ?_
     refine AW2.cond (b:=(decide (a56<(p0.memories.length:Int)))) rfl (fun hc => ?_) (fun hc => ?_)
     ·replace H:=zao H hc
      refine AW2.skip ?_
      refine AW2.seq ?_
      refine AW2.block ?_
      obtain ⟨h57,H⟩:=zaf H
      obtain ⟨h58,H⟩:=zaf H
      refine AW2.rg [.sb ([(p0.memories.getD a56.toNat default)]:List Lim).length (fl eLim ([(p0.memories.getD a56.toNat default)]:List Lim)),.s true (a55++([(p0.memories.getD a56.toNat default)]:List Lim)).length (fl eLim (a55++([(p0.memories.getD a56.toNat default)]:List Lim)))] [1,2,3,7] [] [.k 1,.k 2,.k 3,.k 36,.k 69,.k 86,.k 103] ⟨[(1,.p 1 0),(2,.p 2 0),(3,.p 3 0),(7,.d (.int .i64 a56))],[(1,.st false (eD (eMdl p0))),(2,.st false [.d .nils,.d .nils,.d .nils,.d .nils,.d .nils,.d .nils,.d .nils,.d .nils]),(3,.st false [.ls 36 0 j1.length,.ls 69 0 j2.length,.ls 86 0 j3.length,.ls 103 0 (a55++([(p0.memories.getD a56.toNat default)]:List Lim)).length,.d .nils,.d .nils,.d .nils,.d .nils]),(36,.sl false 2 j1.length (fl eTyp j1)),(69,.sl false 3 j2.length (fl eFnc j2)),(86,.sl false 3 j3.length (fl eLim j3)),(103,.sl false 3 (a55++([(p0.memories.getD a56.toNat default)]:List Lim)).length (fl eLim (a55++([(p0.memories.getD a56.toNat default)]:List Lim))))]⟩ (And.intro (And.intro h57 (And.intro (litF eLim ([(p0.memories.getD a56.toNat default)]:List Lim)) (And.intro (Nat.le_refl a55.length) (And.intro h58 (And.intro (app1 eLim a55 (p0.memories.getD a56.toNat default) (fl eLim ([(p0.memories.getD a56.toNat default)]:List Lim)) rfl) True.intro))))) True.intro) (by kernel_rfl) ?_
      refine AW2.rg [] [1,2,3,7] [] [.k 1,.k 2,.k 3,.k 36,.k 69,.k 86,.k 103] ⟨[(1,.p 1 0),(2,.p 2 0),(3,.p 3 0),(7,.d (.int .i64 (wI (a56+1))))],[(1,.st false (eD (eMdl p0))),(2,.st false [.d .nils,.d .nils,.d .nils,.d .nils,.d .nils,.d .nils,.d .nils,.d .nils]),(3,.st false [.ls 36 0 j1.length,.ls 69 0 j2.length,.ls 86 0 j3.length,.ls 103 0 (a55++([(p0.memories.getD a56.toNat default)]:List Lim)).length,.d .nils,.d .nils,.d .nils,.d .nils]),(36,.sl false 2 j1.length (fl eTyp j1)),(69,.sl false 3 j2.length (fl eFnc j2)),(86,.sl false 3 j3.length (fl eLim j3)),(103,.sl false 3 (a55++([(p0.memories.getD a56.toNat default)]:List Lim)).length (fl eLim (a55++([(p0.memories.getD a56.toNat default)]:List Lim))))]⟩ (And.intro True.intro True.intro) (by kernel_rfl) ?_
      exact ⟨k,((a55++([(p0.memories.getD a56.toNat default)]:List Lim)),(wI (a56+1))),Nat.lt_succ_self k,H,zbc [1,2,3,7] [] [.k 1,.k 2,.k 3,.k 36,.k 69,.k 86,.k 103] True.intro (by kernel_rfl)⟩
     ·replace H:=zap H hc
      refine AW2.exit ?_
      have H:=Option.some.inj H
      subst H
      exact zbc [1,2,3] [] [.k 1,.k 2,.k 3,.k 36,.k 69,.k 86,.k 103] True.intro (by kernel_rfl)
   ·have H:=H68
    refine AW2.seq ?_
    refine AW2.rg [] [1,2,3,6] [] [.k 1,.k 2,.k 3,.k 36,.k 69] ⟨[(1,.p 1 0),(2,.p 2 0),(3,.p 3 0),(6,.d (.int .i64 0))],[(1,.st false (eD (eMdl p0))),(2,.st false [.d .nils,.d .nils,.d .nils,.d .nils,.d .nils,.d .nils,.d .nils,.d .nils]),(3,.st false [.ls 36 0 j1.length,.ls 69 0 j2.length,.d .nils,.d .nils,.d .nils,.d .nils,.d .nils,.d .nils]),(36,.sl false 2 j1.length (fl eTyp j1)),(69,.sl false 3 j2.length (fl eFnc j2))]⟩ (And.intro True.intro True.intro) (by kernel_rfl) ?_
    refine AW2.block ?_
    refine AW2.cv [.c 3 2 86 3 (fl eLim ([]:List Lim))] [1,2,3,6] [] [.k 1,.k 2,.k 3,.k 36,.k 69,.k 86] ⟨[(1,.p 1 0),(2,.p 2 0),(3,.p 3 0),(6,.d (.int .i64 0))],[(1,.st false (eD (eMdl p0))),(2,.st false [.d .nils,.d .nils,.d .nils,.d .nils,.d .nils,.d .nils,.d .nils,.d .nils]),(3,.st false [.ls 36 0 j1.length,.ls 69 0 j2.length,.ls 86 0 ([]:List Lim).length,.d .nils,.d .nils,.d .nils,.d .nils,.d .nils]),(36,.sl false 2 j1.length (fl eTyp j1)),(69,.sl false 3 j2.length (fl eFnc j2)),(86,.sl false 3 ([]:List Lim).length (fl eLim ([]:List Lim)))]⟩ True.intro (by kernel_rfl) ?_
    refine AW2.lp (σ:=(List Lim)×Int) (fun v => ⟨[(1,.p 1 0),(2,.p 2 0),(3,.p 3 0),(6,.d (.int .i64 v.2))],[(1,.st false (eD (eMdl p0))),(2,.st false [.d .nils,.d .nils,.d .nils,.d .nils,.d .nils,.d .nils,.d .nils,.d .nils]),(3,.st false [.ls 36 0 j1.length,.ls 69 0 j2.length,.ls 86 0 v.1.length,.d .nils,.d .nils,.d .nils,.d .nils,.d .nils]),(36,.sl false 2 j1.length (fl eTyp j1)),(69,.sl false 3 j2.length (fl eFnc j2)),(86,.sl false 3 v.1.length (fl eLim v.1))]⟩) (fun k v => zbn k p0 v.1 v.2=some j3) ?_ K (([]:List Lim),0) H
    rintro k ⟨a63,a64⟩ H
    dsimp only at H
    cases k with
    | zero => cases H
    | succ k => 
    unfold zbn at H
    refine AW2.seq ?_
    refine AW2.seq ?_
    refine AW2.rg [] [1,2,3,6,75] [] [.k 1,.k 2,.k 3,.k 36,.k 69,.k 86] ⟨[(1,.p 1 0),(2,.p 2 0),(3,.p 3 0),(6,.d (.int .i64 a64)),(75,.d (.bool (decide (a64<(p0.tables.length:Int)))))],[(1,.st false (eD (eMdl p0))),(2,.st false [.d .nils,.d .nils,.d .nils,.d .nils,.d .nils,.d .nils,.d .nils,.d .nils]),(3,.st false [.ls 36 0 j1.length,.ls 69 0 j2.length,.ls 86 0 a63.length,.d .nils,.d .nils,.d .nils,.d .nils,.d .nils]),(36,.sl false 2 j1.length (fl eTyp j1)),(69,.sl false 3 j2.length (fl eFnc j2)),(86,.sl false 3 a63.length (fl eLim a63))]⟩ (And.intro True.intro True.intro) (by kernel_rfl) ?_
    refine AW2.cond (b:=(decide (a64<(p0.tables.length:Int)))) rfl (fun hc => ?_) (fun hc => ?_)
    ·replace H:=zao H hc
     refine AW2.skip ?_
     refine AW2.seq ?_
     refine AW2.block ?_
     obtain ⟨h65,H⟩:=zaf H
     obtain ⟨h66,H⟩:=zaf H
     refine AW2.rg [.sb ([(p0.tables.getD a64.toNat default)]:List Lim).length (fl eLim ([(p0.tables.getD a64.toNat default)]:List Lim)),.s true (a63++([(p0.tables.getD a64.toNat default)]:List Lim)).length (fl eLim (a63++([(p0.tables.getD a64.toNat default)]:List Lim)))] [1,2,3,6] [] [.k 1,.k 2,.k 3,.k 36,.k 69,.k 86] ⟨[(1,.p 1 0),(2,.p 2 0),(3,.p 3 0),(6,.d (.int .i64 a64))],[(1,.st false (eD (eMdl p0))),(2,.st false [.d .nils,.d .nils,.d .nils,.d .nils,.d .nils,.d .nils,.d .nils,.d .nils]),(3,.st false [.ls 36 0 j1.length,.ls 69 0 j2.length,.ls 86 0 (a63++([(p0.tables.getD a64.toNat default)]:List Lim)).length,.d .nils,.d .nils,.d .nils,.d .nils,.d .nils]),(36,.sl false 2 j1.length (fl eTyp j1)),(69,.sl false 3 j2.length (fl eFnc j2)),(86,.sl false 3 (a63++([(p0.tables.getD a64.toNat default)]:List Lim)).length (fl eLim (a63++([(p0.tables.getD a64.toNat default)]:List Lim))))]⟩ (And.intro (And.intro h65 (And.intro (litF eLim ([(p0.tables.getD a64.toNat default)]:List Lim)) (And.intro (Nat.le_refl a63.length) (And.intro h66 (And.intro (app1 eLim a63 (p0.tables.getD a64.toNat default) (fl eLim ([(p0.tables.getD a64.toNat default)]:List Lim)) rfl) True.intro))))) True.intro) (by kernel_rfl) ?_
     refine AW2.rg [] [1,2,3,6] [] [.k 1,.k 2,.k 3,.k 36,.k 69,.k 86] ⟨[(1,.p 1 0),(2,.p 2 0),(3,.p 3 0),(6,.d (.int .i64 (wI (a64+1))))],[(1,.st false (eD (eMdl p0))),(2,.st false [.d .nils,.d .nils,.d .nils,.d .nils,.d .nils,.d .nils,.d .nils,.d .nils]),(3,.st false [.ls 36 0 j1.length,.ls 69 0 j2.length,.ls 86 0 (a63++([(p0.tables.getD a64.toNat default)]:List Lim)).length,.d .nils,.d .nils,.d .nils,.d .nils,.d .nils]),(36,.sl false 2 j1.length (fl eTyp j1)),(69,.sl false 3 j2.length (fl eFnc j2)),(86,.sl false 3 (a63++([(p0.tables.getD a64.toNat default)]:List Lim)).length (fl eLim (a63++([(p0.tables.getD a64.toNat default)]:List Lim))))]⟩ (And.intro True.intro True.intro) (by kernel_rfl) ?_
     exact ⟨k,((a63++([(p0.tables.getD a64.toNat default)]:List Lim)),(wI (a64+1))),Nat.lt_succ_self k,H,zbc [1,2,3,6] [] [.k 1,.k 2,.k 3,.k 36,.k 69,.k 86] True.intro (by kernel_rfl)⟩
    ·replace H:=zap H hc
     refine AW2.exit ?_
     have H:=Option.some.inj H
     subst H
     exact zbc [1,2,3] [] [.k 1,.k 2,.k 3,.k 36,.k 69,.k 86] True.intro (by kernel_rfl)
  ·have H:=H82
   refine AW2.seq ?_
   refine AW2.rg [] [1,2,3,5] [] [.k 1,.k 2,.k 3,.k 36] ⟨[(1,.p 1 0),(2,.p 2 0),(3,.p 3 0),(5,.d (.int .i64 0))],[(1,.st false (eD (eMdl p0))),(2,.st false [.d .nils,.d .nils,.d .nils,.d .nils,.d .nils,.d .nils,.d .nils,.d .nils]),(3,.st false [.ls 36 0 j1.length,.d .nils,.d .nils,.d .nils,.d .nils,.d .nils,.d .nils,.d .nils]),(36,.sl false 2 j1.length (fl eTyp j1))]⟩ (And.intro True.intro True.intro) (by kernel_rfl) ?_
   refine AW2.block ?_
   refine AW2.cv [.c 3 1 69 3 (fl eFnc ([]:List Fnc))] [1,2,3,5] [] [.k 1,.k 2,.k 3,.k 36,.k 69] ⟨[(1,.p 1 0),(2,.p 2 0),(3,.p 3 0),(5,.d (.int .i64 0))],[(1,.st false (eD (eMdl p0))),(2,.st false [.d .nils,.d .nils,.d .nils,.d .nils,.d .nils,.d .nils,.d .nils,.d .nils]),(3,.st false [.ls 36 0 j1.length,.ls 69 0 ([]:List Fnc).length,.d .nils,.d .nils,.d .nils,.d .nils,.d .nils,.d .nils]),(36,.sl false 2 j1.length (fl eTyp j1)),(69,.sl false 3 ([]:List Fnc).length (fl eFnc ([]:List Fnc)))]⟩ True.intro (by kernel_rfl) ?_
   refine AW2.lp (σ:=(List Fnc)×Int) (fun v => ⟨[(1,.p 1 0),(2,.p 2 0),(3,.p 3 0),(5,.d (.int .i64 v.2))],[(1,.st false (eD (eMdl p0))),(2,.st false [.d .nils,.d .nils,.d .nils,.d .nils,.d .nils,.d .nils,.d .nils,.d .nils]),(3,.st false [.ls 36 0 j1.length,.ls 69 0 v.1.length,.d .nils,.d .nils,.d .nils,.d .nils,.d .nils,.d .nils]),(36,.sl false 2 j1.length (fl eTyp j1)),(69,.sl false 3 v.1.length (fl eFnc v.1))]⟩) (fun k v => zbm k K p0 v.1 v.2=some j2) ?_ K (([]:List Fnc),0) H
   rintro k ⟨a71,a72⟩ H
   dsimp only at H
   cases k with
   | zero => cases H
   | succ k => 
   unfold zbm at H
   refine AW2.seq ?_
   refine AW2.seq ?_
   refine AW2.rg [] [1,2,3,5,42] [] [.k 1,.k 2,.k 3,.k 36,.k 69] ⟨[(1,.p 1 0),(2,.p 2 0),(3,.p 3 0),(5,.d (.int .i64 a72)),(42,.d (.bool (decide (a72<(p0.funcs.length:Int)))))],[(1,.st false (eD (eMdl p0))),(2,.st false [.d .nils,.d .nils,.d .nils,.d .nils,.d .nils,.d .nils,.d .nils,.d .nils]),(3,.st false [.ls 36 0 j1.length,.ls 69 0 a71.length,.d .nils,.d .nils,.d .nils,.d .nils,.d .nils,.d .nils]),(36,.sl false 2 j1.length (fl eTyp j1)),(69,.sl false 3 a71.length (fl eFnc a71))]⟩ (And.intro True.intro True.intro) (by kernel_rfl) ?_
   refine AW2.cond (b:=(decide (a72<(p0.funcs.length:Int)))) rfl (fun hc => ?_) (fun hc => ?_)
   ·replace H:=zao H hc
    refine AW2.skip ?_
    refine AW2.seq ?_
    refine AW2.block ?_
    obtain ⟨h73,H⟩:=zaf H
    obtain ⟨h74,H⟩:=zaf H
    obtain ⟨x75,hx76,H⟩:=bind_some H
    obtain ⟨h77,H⟩:=zaf H
    obtain ⟨x78,hx79,H⟩:=bind_some H
    obtain ⟨h80,H⟩:=zaf H
    refine AW2.rg [.r (sV (eI .u8) x75),.r (sVI x78),.sb ([(Fnc.mk ((p0.funcs.getD a72.toNat default).type_) x75 x78)]:List Fnc).length (fl eFnc ([(Fnc.mk ((p0.funcs.getD a72.toNat default).type_) x75 x78)]:List Fnc)),.s true (a71++([(Fnc.mk ((p0.funcs.getD a72.toNat default).type_) x75 x78)]:List Fnc)).length (fl eFnc (a71++([(Fnc.mk ((p0.funcs.getD a72.toNat default).type_) x75 x78)]:List Fnc)))] [1,2,3,5] [] [.k 1,.k 2,.k 3,.k 36,.k 69] ⟨[(1,.p 1 0),(2,.p 2 0),(3,.p 3 0),(5,.d (.int .i64 a72))],[(1,.st false (eD (eMdl p0))),(2,.st false [.d .nils,.d .nils,.d .nils,.d .nils,.d .nils,.d .nils,.d .nils,.d .nils]),(3,.st false [.ls 36 0 j1.length,.ls 69 0 (a71++([(Fnc.mk ((p0.funcs.getD a72.toNat default).type_) x75 x78)]:List Fnc)).length,.d .nils,.d .nils,.d .nils,.d .nils,.d .nils,.d .nils]),(36,.sl false 2 j1.length (fl eTyp j1)),(69,.sl false 3 (a71++([(Fnc.mk ((p0.funcs.getD a72.toNat default).type_) x75 x78)]:List Fnc)).length (fl eFnc (a71++([(Fnc.mk ((p0.funcs.getD a72.toNat default).type_) x75 x78)]:List Fnc))))]⟩ (And.intro (And.intro h73 (And.intro h74 (And.intro (zmy K ((p0.funcs.getD a72.toNat default).locals) x75 hx76) (And.intro h77 (And.intro (zoj K ((p0.funcs.getD a72.toNat default).body) x78 hx79) (And.intro (litF eFnc ([(Fnc.mk ((p0.funcs.getD a72.toNat default).type_) x75 x78)]:List Fnc)) (And.intro (Nat.le_refl a71.length) (And.intro h80 (And.intro (app1 eFnc a71 (Fnc.mk ((p0.funcs.getD a72.toNat default).type_) x75 x78) (fl eFnc ([(Fnc.mk ((p0.funcs.getD a72.toNat default).type_) x75 x78)]:List Fnc)) rfl) True.intro))))))))) True.intro) (by kernel_rfl) ?_
    refine AW2.rg [] [1,2,3,5] [] [.k 1,.k 2,.k 3,.k 36,.k 69] ⟨[(1,.p 1 0),(2,.p 2 0),(3,.p 3 0),(5,.d (.int .i64 (wI (a72+1))))],[(1,.st false (eD (eMdl p0))),(2,.st false [.d .nils,.d .nils,.d .nils,.d .nils,.d .nils,.d .nils,.d .nils,.d .nils]),(3,.st false [.ls 36 0 j1.length,.ls 69 0 (a71++([(Fnc.mk ((p0.funcs.getD a72.toNat default).type_) x75 x78)]:List Fnc)).length,.d .nils,.d .nils,.d .nils,.d .nils,.d .nils,.d .nils]),(36,.sl false 2 j1.length (fl eTyp j1)),(69,.sl false 3 (a71++([(Fnc.mk ((p0.funcs.getD a72.toNat default).type_) x75 x78)]:List Fnc)).length (fl eFnc (a71++([(Fnc.mk ((p0.funcs.getD a72.toNat default).type_) x75 x78)]:List Fnc))))]⟩ (And.intro True.intro True.intro) (by kernel_rfl) ?_
    exact ⟨k,((a71++([(Fnc.mk ((p0.funcs.getD a72.toNat default).type_) x75 x78)]:List Fnc)),(wI (a72+1))),Nat.lt_succ_self k,H,zbc [1,2,3,5] [] [.k 1,.k 2,.k 3,.k 36,.k 69] True.intro (by kernel_rfl)⟩
   ·replace H:=zap H hc
    refine AW2.exit ?_
    have H:=Option.some.inj H
    subst H
    exact zbc [1,2,3] [] [.k 1,.k 2,.k 3,.k 36,.k 69] True.intro (by kernel_rfl)
 ·have H:=H93
  refine AW2.seq ?_
  refine AW2.rg [] [1,2,3,4] [] [.k 1,.k 2,.k 3] ⟨[(1,.p 1 0),(2,.p 2 0),(3,.p 3 0),(4,.d (.int .i64 0))],[(1,.st false (eD (eMdl p0))),(2,.st false [.d .nils,.d .nils,.d .nils,.d .nils,.d .nils,.d .nils,.d .nils,.d .nils]),(3,.st false [.d .nils,.d .nils,.d .nils,.d .nils,.d .nils,.d .nils,.d .nils,.d .nils])]⟩ (And.intro True.intro True.intro) (by kernel_rfl) ?_
  refine AW2.block ?_
  refine AW2.cv [.c 3 0 36 2 (fl eTyp ([]:List Typ))] [1,2,3,4] [] [.k 1,.k 2,.k 3,.k 36] ⟨[(1,.p 1 0),(2,.p 2 0),(3,.p 3 0),(4,.d (.int .i64 0))],[(1,.st false (eD (eMdl p0))),(2,.st false [.d .nils,.d .nils,.d .nils,.d .nils,.d .nils,.d .nils,.d .nils,.d .nils]),(3,.st false [.ls 36 0 ([]:List Typ).length,.d .nils,.d .nils,.d .nils,.d .nils,.d .nils,.d .nils,.d .nils]),(36,.sl false 2 ([]:List Typ).length (fl eTyp ([]:List Typ)))]⟩ True.intro (by kernel_rfl) ?_
  refine AW2.lp (σ:=(List Typ)×Int) (fun v => ⟨[(1,.p 1 0),(2,.p 2 0),(3,.p 3 0),(4,.d (.int .i64 v.2))],[(1,.st false (eD (eMdl p0))),(2,.st false [.d .nils,.d .nils,.d .nils,.d .nils,.d .nils,.d .nils,.d .nils,.d .nils]),(3,.st false [.ls 36 0 v.1.length,.d .nils,.d .nils,.d .nils,.d .nils,.d .nils,.d .nils,.d .nils]),(36,.sl false 2 v.1.length (fl eTyp v.1))]⟩) (fun k v => zbl k K p0 v.1 v.2=some j1) ?_ K (([]:List Typ),0) H
  rintro k ⟨a85,a86⟩ H
  dsimp only at H
  cases k with
  | zero => cases H
  | succ k => 
  unfold zbl at H
  refine AW2.seq ?_
  refine AW2.seq ?_
  refine AW2.rg [] [1,2,3,4,16] [] [.k 1,.k 2,.k 3,.k 36] ⟨[(1,.p 1 0),(2,.p 2 0),(3,.p 3 0),(4,.d (.int .i64 a86)),(16,.d (.bool (decide (a86<(p0.types.length:Int)))))],[(1,.st false (eD (eMdl p0))),(2,.st false [.d .nils,.d .nils,.d .nils,.d .nils,.d .nils,.d .nils,.d .nils,.d .nils]),(3,.st false [.ls 36 0 a85.length,.d .nils,.d .nils,.d .nils,.d .nils,.d .nils,.d .nils,.d .nils]),(36,.sl false 2 a85.length (fl eTyp a85))]⟩ (And.intro True.intro True.intro) (by kernel_rfl) ?_
  refine AW2.cond (b:=(decide (a86<(p0.types.length:Int)))) rfl (fun hc => ?_) (fun hc => ?_)
  ·replace H:=zao H hc
   refine AW2.skip ?_
   refine AW2.seq ?_
   refine AW2.block ?_
   obtain ⟨h87,H⟩:=zaf H
   obtain ⟨x88,hx89,H⟩:=bind_some H
   obtain ⟨h90,H⟩:=zaf H
   obtain ⟨h91,H⟩:=zaf H
   refine AW2.rg [.r (sV (eI .u8) x88),.sb ([(Typ.mk x88 ((p0.types.getD a86.toNat default).result))]:List Typ).length (fl eTyp ([(Typ.mk x88 ((p0.types.getD a86.toNat default).result))]:List Typ)),.s true (a85++([(Typ.mk x88 ((p0.types.getD a86.toNat default).result))]:List Typ)).length (fl eTyp (a85++([(Typ.mk x88 ((p0.types.getD a86.toNat default).result))]:List Typ)))] [1,2,3,4] [] [.k 1,.k 2,.k 3,.k 36] ⟨[(1,.p 1 0),(2,.p 2 0),(3,.p 3 0),(4,.d (.int .i64 a86))],[(1,.st false (eD (eMdl p0))),(2,.st false [.d .nils,.d .nils,.d .nils,.d .nils,.d .nils,.d .nils,.d .nils,.d .nils]),(3,.st false [.ls 36 0 (a85++([(Typ.mk x88 ((p0.types.getD a86.toNat default).result))]:List Typ)).length,.d .nils,.d .nils,.d .nils,.d .nils,.d .nils,.d .nils,.d .nils]),(36,.sl false 2 (a85++([(Typ.mk x88 ((p0.types.getD a86.toNat default).result))]:List Typ)).length (fl eTyp (a85++([(Typ.mk x88 ((p0.types.getD a86.toNat default).result))]:List Typ))))]⟩ (And.intro (And.intro h87 (And.intro (zmy K ((p0.types.getD a86.toNat default).params) x88 hx89) (And.intro h90 (And.intro (litF eTyp ([(Typ.mk x88 ((p0.types.getD a86.toNat default).result))]:List Typ)) (And.intro (Nat.le_refl a85.length) (And.intro h91 (And.intro (app1 eTyp a85 (Typ.mk x88 ((p0.types.getD a86.toNat default).result)) (fl eTyp ([(Typ.mk x88 ((p0.types.getD a86.toNat default).result))]:List Typ)) rfl) True.intro))))))) True.intro) (by kernel_rfl) ?_
   refine AW2.rg [] [1,2,3,4] [] [.k 1,.k 2,.k 3,.k 36] ⟨[(1,.p 1 0),(2,.p 2 0),(3,.p 3 0),(4,.d (.int .i64 (wI (a86+1))))],[(1,.st false (eD (eMdl p0))),(2,.st false [.d .nils,.d .nils,.d .nils,.d .nils,.d .nils,.d .nils,.d .nils,.d .nils]),(3,.st false [.ls 36 0 (a85++([(Typ.mk x88 ((p0.types.getD a86.toNat default).result))]:List Typ)).length,.d .nils,.d .nils,.d .nils,.d .nils,.d .nils,.d .nils,.d .nils]),(36,.sl false 2 (a85++([(Typ.mk x88 ((p0.types.getD a86.toNat default).result))]:List Typ)).length (fl eTyp (a85++([(Typ.mk x88 ((p0.types.getD a86.toNat default).result))]:List Typ))))]⟩ (And.intro True.intro True.intro) (by kernel_rfl) ?_
   exact ⟨k,((a85++([(Typ.mk x88 ((p0.types.getD a86.toNat default).result))]:List Typ)),(wI (a86+1))),Nat.lt_succ_self k,H,zbc [1,2,3,4] [] [.k 1,.k 2,.k 3,.k 36] True.intro (by kernel_rfl)⟩
  ·replace H:=zap H hc
   refine AW2.exit ?_
   have H:=Option.some.inj H
   subst H
   exact zbc [1,2,3] [] [.k 1,.k 2,.k 3,.k 36] True.intro (by kernel_rfl)
theorem zoi {ρ ρ':Rho} {k k' lo n:Nat} {v:AV} (e:ρ' k'=ρ k) (h:RL ρ (.ls k lo n) v):RL ρ' (.ls k' lo n) v:=by
 cases h with
 | ls _ _ _ κ h => exact .ls _ _ _ κ (by rw [e]; exact h)
 | ls0 _ _ h => exact .ls0 _ _ (by rw [e]; exact h)
theorem zyJ {ρ ρ':Rho} {h:Hp} {k k':Nat} {ro:Bool} {esz n:Nat} {f:Nat→List FV} (e:ρ' k'=ρ k) (r:RO ρ h k (.sl ro esz n f)):RO ρ' h k' (.sl ro esz n f):=by
 rcases r with ⟨κ,es,h1,h2⟩ | ⟨h1,h2⟩
 ·exact .inl ⟨κ,es,by rw [e]; exact h1,h2⟩
 ·exact .inr ⟨by rw [e]; exact h1,h2⟩
theorem lkO_mem:∀ {l:List (Nat×Ob)} {k:Nat} {o:Ob},lkO l k=some o→∃ q,(q,o)∈l
 | [],k,o,h => by cases h
 | (q,p) :: l,k,o,h => by
  simp only [lkO] at h
  cases e:Nat.beq k q with
  | true => 
   rw [e,cond_true] at h
   obtain rfl:=Option.some.inj h
   exact ⟨q,List.mem_cons_self⟩
  | false => 
   rw [e,cond_false] at h
   obtain ⟨q',h'⟩:=lkO_mem h
   exact ⟨q',List.mem_cons_of_mem _ h'⟩
def shH (c:Nat) (l:List (Nat×Ob)):List (Nat×Ob):=l.map fun p => (c+p.1,p.2)
theorem shH_lk (c:Nat):∀ (l:List (Nat×Ob)) (k:Nat) (o:Ob),lkO (shH c l) k=some o→c≤k∧lkO l (k - c)=some o
 | [],k,o,h => by cases h
 | (q,p) :: l,k,o,h => by
  simp only [shH,List.map_cons,lkO] at h
  cases e:Nat.beq k (c+q) with
  | true => 
   rw [e,cond_true] at h
   have e':=Nat.eq_of_beq_eq_true e
   subst e'
   refine ⟨Nat.le_add_right _ _,?_⟩
   rw [Nat.add_sub_cancel_left]
   simp only [lkO,beqT,cond_true]; exact h
  | false => 
   rw [e,cond_false] at h
   obtain ⟨h1,h2⟩:=shH_lk c l k o h
   refine ⟨h1,?_⟩
   simp only [lkO]
   have:Nat.beq (k - c) q=false:=by
    cases e2:Nat.beq (k - c) q with
    | false => rfl
    | true => 
     have:=Nat.eq_of_beq_eq_true e2
     have:k=c+q:=by omega
     rw [this,beqT] at e; cases e
   rw [this,cond_false]; exact h2
theorem zfr (c K:Nat) (p0:Mdl) (r:Mdl) (H:zbw K p0=some r):CM E 3 [.agg (eD (eMdl p0))] [] [c+36,c+69,c+86,c+103,c+135,c+152,c+184,c+216] [] (fun a b => a=.agg [.ls (c+36) 0 r.types.length,.ls (c+69) 0 r.funcs.length,.ls (c+86) 0 r.tables.length,.ls (c+103) 0 r.memories.length,.ls (c+135) 0 r.globals.length,.ls (c+152) 0 r.exports.length,.ls (c+184) 0 r.elems.length,.ls (c+216) 0 r.datas.length]∧b=[(c+36,.sl false 2 r.types.length (fl eTyp r.types)),(c+69,.sl false 3 r.funcs.length (fl eFnc r.funcs)),(c+86,.sl false 3 r.tables.length (fl eLim r.tables)),(c+103,.sl false 3 r.memories.length (fl eLim r.memories)),(c+135,.sl false 10 r.globals.length (fl eGlo r.globals)),(c+152,.sl false 3 r.exports.length (fl eXpo r.exports)),(c+184,.sl false 10 r.elems.length (fl eEle r.elems)),(c+216,.sl false 10 r.datas.length (fl eDat r.datas))]):=by
 intro ρ h0 n0 al hO hinj hlt hr hrows
 refine (zlv K p0 r H ρ h0 n0 al hO hinj hlt hr hrows).mono ?_
 rintro rv h2 n2 ⟨⟨lv,H',ρ2,⟨rfl,rfl⟩,q1,q2,q3,q4,q5,q6,q7,q8⟩,q9,q10,q11⟩
 refine ⟨⟨_,_,fun k => ρ2 (k - c),⟨rfl,rfl⟩,?_,?_,?_,fun k o ho => ?_,fun k k' κ a b ea eb => ?_,fun k κ a ea => ?_,fun k κ a ea => ?_,fun k hk => by cases hk⟩,q9,q10,q11⟩
 ·simp [inK,inKL]
 ·simp [inKH]
 ·cases q3 with
  | agg cs cs' hl hc => 
   refine .agg _ _ hl fun i hi => ?_
   have hi':i<8:=hi
   have:=hc i hi
   match i,hi' with
   | 0,_ => exact zoi (k:=36) (by show ρ2 (c+36 - c)=_; rw [Nat.add_sub_cancel_left]) this
   | 1,_ => exact zoi (k:=69) (by show ρ2 (c+69 - c)=_; rw [Nat.add_sub_cancel_left]) this
   | 2,_ => exact zoi (k:=86) (by show ρ2 (c+86 - c)=_; rw [Nat.add_sub_cancel_left]) this
   | 3,_ => exact zoi (k:=103) (by show ρ2 (c+103 - c)=_; rw [Nat.add_sub_cancel_left]) this
   | 4,_ => exact zoi (k:=135) (by show ρ2 (c+135 - c)=_; rw [Nat.add_sub_cancel_left]) this
   | 5,_ => exact zoi (k:=152) (by show ρ2 (c+152 - c)=_; rw [Nat.add_sub_cancel_left]) this
   | 6,_ => exact zoi (k:=184) (by show ρ2 (c+184 - c)=_; rw [Nat.add_sub_cancel_left]) this
   | 7,_ => exact zoi (k:=216) (by show ρ2 (c+216 - c)=_; rw [Nat.add_sub_cancel_left]) this
 ·obtain ⟨h1,h3⟩:=shH_lk c [(36,.sl false 2 r.types.length (fl eTyp r.types)),(69,.sl false 3 r.funcs.length (fl eFnc r.funcs)),(86,.sl false 3 r.tables.length (fl eLim r.tables)),(103,.sl false 3 r.memories.length (fl eLim r.memories)),(135,.sl false 10 r.globals.length (fl eGlo r.globals)),(152,.sl false 3 r.exports.length (fl eXpo r.exports)),(184,.sl false 10 r.elems.length (fl eEle r.elems)),(216,.sl false 10 r.datas.length (fl eDat r.datas))] k o ho
  have h4:=q4 _ _ h3
  cases o with
  | sl ro esz n f => exact zyJ rfl h4
  | st ro cs => 
   obtain ⟨q,hq⟩:=lkO_mem h3
   simp at hq
 ·obtain ⟨o,ho⟩:=Option.isSome_iff_exists.1 a
  obtain ⟨o',ho'⟩:=Option.isSome_iff_exists.1 b
  obtain ⟨h1,h3⟩:=shH_lk c [(36,.sl false 2 r.types.length (fl eTyp r.types)),(69,.sl false 3 r.funcs.length (fl eFnc r.funcs)),(86,.sl false 3 r.tables.length (fl eLim r.tables)),(103,.sl false 3 r.memories.length (fl eLim r.memories)),(135,.sl false 10 r.globals.length (fl eGlo r.globals)),(152,.sl false 3 r.exports.length (fl eXpo r.exports)),(184,.sl false 10 r.elems.length (fl eEle r.elems)),(216,.sl false 10 r.datas.length (fl eDat r.datas))] k o ho
  obtain ⟨h1',h3'⟩:=shH_lk c [(36,.sl false 2 r.types.length (fl eTyp r.types)),(69,.sl false 3 r.funcs.length (fl eFnc r.funcs)),(86,.sl false 3 r.tables.length (fl eLim r.tables)),(103,.sl false 3 r.memories.length (fl eLim r.memories)),(135,.sl false 10 r.globals.length (fl eGlo r.globals)),(152,.sl false 3 r.exports.length (fl eXpo r.exports)),(184,.sl false 10 r.elems.length (fl eEle r.elems)),(216,.sl false 10 r.datas.length (fl eDat r.datas))] k' o' ho'
  have:=q5 (k - c) (k' - c) κ (by rw [h3]; rfl) (by rw [h3']; rfl) ea eb
  omega
 ·obtain ⟨o,ho⟩:=Option.isSome_iff_exists.1 a
  obtain ⟨h1,h3⟩:=shH_lk c [(36,.sl false 2 r.types.length (fl eTyp r.types)),(69,.sl false 3 r.funcs.length (fl eFnc r.funcs)),(86,.sl false 3 r.tables.length (fl eLim r.tables)),(103,.sl false 3 r.memories.length (fl eLim r.memories)),(135,.sl false 10 r.globals.length (fl eGlo r.globals)),(152,.sl false 3 r.exports.length (fl eXpo r.exports)),(184,.sl false 10 r.elems.length (fl eEle r.elems)),(216,.sl false 10 r.datas.length (fl eDat r.datas))] k o ho
  exact q6 (k - c) κ (by rw [h3]; rfl) ea
 ·obtain ⟨o,ho⟩:=Option.isSome_iff_exists.1 a
  obtain ⟨h1,h3⟩:=shH_lk c [(36,.sl false 2 r.types.length (fl eTyp r.types)),(69,.sl false 3 r.funcs.length (fl eFnc r.funcs)),(86,.sl false 3 r.tables.length (fl eLim r.tables)),(103,.sl false 3 r.memories.length (fl eLim r.memories)),(135,.sl false 10 r.globals.length (fl eGlo r.globals)),(152,.sl false 3 r.exports.length (fl eXpo r.exports)),(184,.sl false 10 r.elems.length (fl eEle r.elems)),(216,.sl false 10 r.datas.length (fl eDat r.datas))] k o ho
  exact q7 (k - c) κ (by rw [h3]; rfl) ea
end Go.Proofs.YtablleokoifolaaGreatDoor
