/-
  Slice expressions,clear,copy,pointers compared,maps from numbers. Generic: nothing of the program is named here. No condition.
-/
import Derived.Test.YtknmacdbffgjgaaGreatDoorM1
import Derived.Deep.DeepAppendWide
import Derived.LaidEqlPtr
import Derived.Laws.CopyRow
set_option linter.unusedVariables false
set_option linter.unusedSimpArgs false
set_option maxRecDepth 100000
set_option maxHeartbeats 16000000
namespace Go.Ck
open Go

theorem ltn {a b:Nat} (h:Nat.blt a b=true):a<b:=by simpa [Nat.blt_eq] using h
theorem len {a b:Nat} (h:Nat.ble a b=true):a≤b:=Nat.le_of_ble_eq_true h
def Fw (r:Option Nat):Fence:={ Fence.wide with round:=r }
theorem JH (r:Option Nat) (n:Nat):(Fw r).room n:=λ_ h=>by simp [Fw,Fence.wide] at h
theorem zQ (r:Option Nat) (n:Nat):(Fw r).depth.isSome=true->1≤n:=λh=>by simp [Fw,Fence.wide] at h
theorem sZ {r:Option Nat} {n:Nat} {P:Program} {f:FuncId} {args:Array Value} {w:World} {R:Ending->World->Prop} (h:Calls P f args w R):CallsIn (Fw r) n P f args w R :=
 let h':=(callsIn_wide (n:=n)).2 h
 ⟨trivial,λcs _=>h'.2 cs<|room_wide _⟩
theorem uO {r:Option Nat} {n:Nat} {P:Program} {f:FuncId} {args:Array Value} {w:World} {R:Ending->World->Prop} (h:CallsIn (Fw r) n P f args w R):Calls P f args w R :=
 (callsIn_wide (n:=n)).1 ⟨trivial,λcs _=>h.2 cs<|JH r _⟩

def Rounds (P:Program) (l:Nat) (f:FuncId) (tmps:Array Value) (assign body:Code) (w:World) (R:Value->World->Prop):Prop :=
 RoundIn (Fw none) 0 P l f tmps assign body w λe w'=>∃ v,e = .returned v/\R v w'

def zR (P:Program) (R:Value->World->Prop):Result Next->Prop
 | .ok (.value v) w'=>R v w'
 | .ok .skip w'=>R undef w'
 | .ok (.enter f args) w'=>Calls P f args w' λe w''=>∃ v,e = .returned v/\R v w''
 | .ok (.round l f tmps assign body) w'=>Rounds P l f tmps assign body w' R
 | .ok (.row row args) w'=>Rows P row args w' R
 | _=>False
def OpV (P:Program) (r:Option Nat) (o:Oper) (a:Act) (w:World) (R:Value->World->Prop):Prop:=zR P R ((o.semAt r a.eval).run P w)
def OpW (P:Program) (r:Option Nat) (o:Oper) (a:Act) (w:World) (K:Act->World->Prop):Prop:=OpV P r o a w λv w'=>K (a.put o.dst v) w'

theorem iW {P:Program} {R R':Value->World->Prop} (hk:∀ v w,R v w->R' v w) {x:Result Next} (h:zR P R x):zR P R' x:=by
 cases x with
 | halt _ _=>exact h
 | ok n w' =>
  cases n <;> first
   | exact h.elim
   | exact hk _ _ h
   | exact Calls.mono h λ_ _ ⟨v,e,k⟩=>⟨v,e,hk _ _ k⟩
   | exact RoundIn.mono h λ_ _ ⟨v,e,k⟩=>⟨v,e,hk _ _ k⟩
   | exact Rows.mono h λ_ _ k=>hk _ _ k
theorem OpV.mono {P:Program} {r:Option Nat} {o:Oper} {a:Act} {w:World} {R R':Value->World->Prop} (hk:∀ v w,R v w->R' v w) (h:OpV P r o a w R):OpV P r o a w R':=iW hk h
theorem OpW.mono {P:Program} {r:Option Nat} {o:Oper} {a:Act} {w:World} {K K':Act->World->Prop} (hk:∀ a w,K a w->K' a w) (h:OpW P r o a w K):OpW P r o a w K':=OpV.mono (λ_ _ k=>hk _ _ k) h

theorem H7 {r:Option Nat} {n:Nat} {P:Program} {l:Nat} {f:FuncId} {tmps:Array Value} {assign body:Code} {w:World} {R:Ending->World->Prop}
  (h:RoundIn (Fw none) 0 P l f tmps assign body w R):RoundIn (Fw r) n P l f tmps assign body w R:=⟨trivial,λc cs _=>h.2 c cs<|JH none _⟩

theorem OpW.wpIn {P:Program} {r:Option Nat} {o:Oper} {a:Act} {w:World} {K:Act->World->Prop} {Q:Exit->Act->World->Prop} (h:OpW P r o a w K):o.wpIn (Fw r) 0 P a w K Q:=by
 refine ⟨λ_ _=>trivial,?_⟩
 unfold OpW OpV at h
 show o.uponIn (Fw r) 0 P a K Q ((o.semAt r a.eval).run P w)
 generalize (o.semAt r a.eval).run P w=x at *
 cases x with
 | halt _ _=>exact h.elim
 | ok n w' =>
  cases n <;> first
   | exact h.elim
   | exact h
   | exact ⟨zQ r _,sZ (Calls.mono h λ_ _ ⟨v,e,k⟩=>by subst e; exact k)⟩
   | exact ⟨zQ r _,H7 (RoundIn.mono h λ_ _ ⟨v,e,k⟩=>by subst e; exact k)⟩
   | exact ⟨zQ r _,λc cs _=>let ⟨v,w',k,s⟩:=h c cs; ⟨v,w',k,stepsIn_wide.2 s⟩⟩

/-! ## A list of operations, in its order -/
def LsW (P:Program) (r:Option Nat) (ops:Array Oper) (K:Act->World->Prop):List Oper->Act->World->Prop
 | [],a,w=>K a w
 | o::rest,a,w=>if Region.wanted o (yielded ops a.tmps) then OpW P r o a w (LsW P r ops K rest) else LsW P r ops K rest (a.put o.dst undef) w

theorem LsW.wpListIn {P : Program} {r : Option Nat} {ops : Array Oper} {K : Act -> World -> Prop} {Q : Exit -> Act -> World -> Prop} (hQ : ∀ a w, K a w -> Q .normal a w) :
  ∀ (l:List Oper) (a:Act) (w:World),LsW P r ops K l a w->Go.wpListIn (Fw r) 0 P ops Q l a w
 | [],a,w,h=>hQ a w h
 | o::rest,a,w,h=>by
  unfold LsW at h
  unfold Go.wpListIn
  split
  ·rename_i hw
   rw [if_pos hw] at h
   exact OpW.wpIn<|OpW.mono (λa w h=>LsW.wpListIn hQ rest a w h) h
  ·rename_i hw
   rw [if_neg hw] at h
   exact ⟨λ_ _=>trivial,LsW.wpListIn hQ rest _ w h⟩

theorem LsW.region {P:Program} {r:Option Nat} {id:Nat} {l:List Oper} {Q:Exit->Act->World->Prop} {a:Act} {w:World} (h:LsW P r l.toArray (Q .normal) l a w) :
  (Code.region id l.toArray false).wpIn (Fw r) 0 P Q a w:=wpIn_region_lit<|LsW.wpListIn (λ_ _ h=>h) l a w h

/-! ## The judgement on a list of operations -/
structure Cx where
 P:Program
 r:Option Nat
 n:Nat
 ds:List Deferred
 w0:World
def St (c:Cx) (ops:Array Oper) (K:Act->World->Prop) (rest:List Oper) (e:Env) (h:SH):Prop :=
 ∀ a w,Kn c.n c.ds a e->Holds w h->Same c.w0 w->LsW c.P c.r ops K rest a w
def Nx (c:Cx) (K:Act->World->Prop) (e:Env) (h:SH):Prop:=∀ a w,Kn c.n c.ds a e->Holds w h->Same c.w0 w->K a w

section
variable {c:Cx} {ops:Array Oper} {K:Act->World->Prop} {rest:List Oper} {e:Env} {h:SH}
theorem sN (hk:Nx c K e h):St c ops K [] e h:=hk

def Vop (P:Program) (e:Env) (h:SH) (op:Op) (ty:TypeId) (v:Value):Prop :=
 (∀ k,op≠.defer k)/\(∀ cs b,op≠.select cs b)/\∀ (ρ : Operand->Value) (w:World) (d:Option Tmp) (pos:String) (after:Array Edge) (g:Option (Nat×Bool)),(∀ x u,e.ev? x=some u -> ρ x=u)->Holds w h ->
  (execOp ρ ⟨d,op,ty,pos,after,g⟩).run P w = .ok (.value v) w

theorem Kn.evs {n:Nat} {ds:List Deferred} {a:Act} {e:Env} (h:Kn n ds a e):∀ x u,e.ev? x=some u->a.eval x=u:=λ_ _ hx=>h.ev hx

theorem H8 {d:Nat} {op:Op} {ty:TypeId} {pos:String} {after:Array Edge} {v:Value} (hv:Vop c.P e h op ty v) (hd:d<c.n) (hn:St c ops K rest ((d,v)::e) h) :
  St c ops K (⟨some d,op,ty,pos,after,none⟩::rest) e h:=λa w hk hh hs=>by
 unfold LsW
 rw [if_pos (by simp [Region.wanted])]
 unfold OpW OpV
 rw [Oper.semAt_eq _ _ _ hv.1,hv.2.2 a.eval w _ _ _ _ hk.evs hh]
 exact hn _ w (hk.put v hd) hh hs
theorem st_valg {d g gd:Nat} {op:Op} {ty:TypeId} {pos:String} {after:Array Edge} {v:Value} {want:Bool} (hg:((ops[g]?).bind (·.dst))=some gd) (hgv:e.get? gd=some (.bool want))
  (hv:Vop c.P e h op ty v) (hd:d<c.n) (hn:St c ops K rest ((d,v)::e) h) :
  St c ops K (⟨some d,op,ty,pos,after,some (g,want)⟩::rest) e h:=λa w hk hh hs=>by
 unfold LsW
 have hy:yielded ops a.tmps g=some want:=by
  unfold yielded
  cases ho:ops[g]? with
  | none=>simp [ho] at hg
  | some o=>simp only [ho,Option.bind_some] at hg; simp [hg,hk.get gd _ hgv]
 rw [if_pos (by simp [Region.wanted,hy])]
 unfold OpW OpV
 rw [Oper.semAt_eq _ _ _ hv.1,hv.2.2 a.eval w _ _ _ _ hk.evs hh]
 exact hn _ w (hk.put v hd) hh hs
theorem st_skip {d g gd:Nat} {op:Op} {ty:TypeId} {pos:String} {after:Array Edge} {want b:Bool} (hg:((ops[g]?).bind (·.dst))=some gd) (hgv:e.get? gd=some (.bool b)) (hb:b = !want) (hd:d<c.n)
  (hn:St c ops K rest ((d,undef)::e) h) :
  St c ops K (⟨some d,op,ty,pos,after,some (g,want)⟩::rest) e h:=λa w hk hh hs=>by
 unfold LsW
 have hy:yielded ops a.tmps g=some b:=by
  unfold yielded
  cases ho:ops[g]? with
  | none=>simp [ho] at hg
  | some o=>simp only [ho,Option.bind_some] at hg; simp [hg,hk.get gd _ hgv]
 rw [if_neg (by subst hb; cases want <;> simp [Region.wanted,hy])]
 exact hn _ w (hk.put undef hd) hh hs
theorem St.weaken {e':Env} (hs:Env.sub e' e) (hn:St c ops K rest e' h):St c ops K rest e h:=λa w hk hh hw=>hn a w (hk.weaken hs) hh hw
theorem Nx.weaken {e':Env} (hs:Env.sub e' e) (hn:Nx c K e' h):Nx c K e h:=λa w hk hh hw=>hn a w (hk.weaken hs) hh hw
theorem Nx.perm {h':SH} (hp:h.Perm h') (hn:Nx c K e h'):Nx c K e h:=λa w hk hh hw=>hn a w hk (hh.perm hp) hw
theorem St.perm {h':SH} (hp:h.Perm h') (hn:St c ops K rest e h'):St c ops K rest e h:=λa w hk hh hw=>hn a w hk (hh.perm hp) hw
end

inductive Keep (e:Env):List Nat->Env->Prop
 | nil:Keep e [] []
 | cons {k:Nat} {v:Value} {ks:List Nat} {e':Env}:e.get? k=some v->Keep e ks e'->Keep e (k::ks) ((k,v)::e')
theorem Keep.sub {e e':Env} {ks:List Nat} (h:Keep e ks e'):Env.sub e' e:=by
 induction h with
 | nil=>trivial
 | cons h1 _ ih=>exact ⟨h1,ih⟩
/-! ## Operations that yield a value -/
section
variable {P:Program} {e:Env} {h:SH} {ty:TypeId}
theorem vM {x:Operand} {v:Value} (hx:e.ev? x=some v):Vop P e h (.move x) ty v :=
 ⟨by simp,by simp,λρ w d pos after g hρ _=>by simp [execOp,hρ x v hx]⟩
theorem vA {x:Operand} {v:Value} (hx:e.ev? x=some v):Vop P e h (.assign x) ty v :=
 ⟨by simp,by simp,λρ w d pos after g hρ _=>by simp [execOp,hρ x v hx]⟩
theorem vQ {x y z:Operand} {v:Value} (hx:e.ev? x=some (.bool true)) (hy:e.ev? y=some v):Vop P e h (.pick x y z) ty v :=
 ⟨by simp,by simp,λρ w d pos after g hρ _=>by simp [execOp,hρ x _ hx,hρ y v hy,asBool]⟩
theorem vP {x y z:Operand} {v:Value} (hx:e.ev? x=some (.bool false)) (hz:e.ev? z=some v):Vop P e h (.pick x y z) ty v :=
 ⟨by simp,by simp,λρ w d pos after g hρ _=>by simp [execOp,hρ x _ hx,hρ z v hz,asBool]⟩
theorem vN {x:Operand} {a:Addr} (hx:e.ev? x=some (.pointer (some a))):Vop P e h (.nilCheck x) ty (.pointer (some a)):=
 ⟨by simp,by simp,λρ w d pos after g hρ _=>by simp [execOp,hρ x _ hx]⟩
theorem bQ {fn : Fn} {first cap : Array Operand} {vf vc : List Value} (h1 : first.toList.mapM e.ev? = some vf) (h2 : cap.toList.mapM e.ev? = some vc) :
  Vop P e h (.makeFunc fn first cap) ty (.func fn vf.toArray vc.toArray):=by
 have key:∀ (ρ : Operand->Value),(∀ x u,e.ev? x=some u -> ρ x=u)->∀ (l:List Operand) (vs:List Value),l.mapM e.ev? = some vs->l.map ρ = vs:=by
  intro ρ hρ l
  induction l with
  | nil=>intro vs hv; simpa using hv.symm
  | cons x t ih =>
   intro vs hv
   simp only [List.mapM_cons,Option.bind_eq_bind,Option.bind_eq_some_iff,Option.pure_def,Option.some.injEq] at hv
   obtain ⟨u,hu,us,hus,rfl⟩:=hv
   simp [hρ x u hu,ih us hus]
 refine ⟨by simp,by simp,λρ w d pos after g hρ _=>?_⟩
 have e1:Array.map ρ first=vf.toArray:=by
  apply Array.toList_inj.1; simpa using key ρ hρ first.toList vf h1
 have e2:Array.map ρ cap=vc.toArray:=by
  apply Array.toList_inj.1; simpa using key ρ hρ cap.toList vc h2
 simp [execOp,Instr.makeFunc,e1,e2]
end

def I64 (n:Int):Prop := -9223372036854775808≤n/\n≤9223372036854775807
theorem I64.wrap {n:Int} (h:I64 n):IntKind.i64.wrap n=n:=IntWalk.i64_in n (by unfold I64 at h; omega)
theorem I64.of {n:Int} (h1 : -1000000000≤n) (h2:n≤1000000000):I64 n:=by unfold I64; omega

def cl (l:List Value) (T:TypeId):Obj:=.cells l.toArray T (0,0)
theorem bV {b off:Nat} {l:List Value} {T:TypeId} {v:Value} (h:l[off]? = some v):Rd (pt b (cl l T)) ⟨b,off,none⟩ v:=rd_pt Zo

def At (h:SH) (p:Addr) (v:Value):Prop:=∃ r h',Sel h r h'/\Rd r p v
theorem bT {r:Res} {t:SH} {p:Addr} {v:Value} (h:Rd r p v):At (r::t) p v:=⟨r,t,.here,h⟩
theorem MK {x:Res} {t:SH} {p:Addr} {v:Value} (h:At t p v):At (x::t) p v:=let ⟨r,h',s,q⟩:=h; ⟨r,x::h',.there s,q⟩
theorem At.cell {w:World} {h:SH} {p:Addr} {v:Value} (ha:At h p v) (hh:Holds w h):w.cell? p=some v:=let ⟨_,_,s,q⟩:=ha; q.at s hh
inductive SetAt:List Value->Nat->Value->List Value->Prop
 | zero {x v:Value} {t:List Value}:SetAt (x::t) 0 v (v::t)
 | succ {x v:Value} {t t':List Value} {n:Nat}:SetAt t n v t'->SetAt (x::t) (n+1) v (x::t')
 | set {t:List Value} {n:Nat} {v:Value}:SetAt t n v (t.set n v)
theorem SetAt.eq {l l':List Value} {n:Nat} {v:Value} (h:SetAt l n v l'):l.set n v=l':=by
 induction h with
 | zero=>rfl
 | succ _ ih=>simp [ih]
 | set=>rfl

/-! ## What a type of the program is -/
def Sz (P:Program) (T:TypeId) (n:Nat):Prop:=∀ w:World,(sizeOf T).run P w = .ok n w
def Ld1 (P:Program) (T:TypeId):Prop:=∀ (w:World) (a:Addr) (v:Value),w.cell? a=some v->(Instr.loadAt T<|.pointer<|some a).run P w = .ok v w
def LdN (P:Program) (T:TypeId) (n:Nat):Prop:=∀ (w:World) (b o:Nat) (vs:List Value),vs.length=n->(∀ i,i<n->w.cell? ⟨b,o+i,none⟩=vs[i]?)->(Instr.loadAt T<|.pointer<|some ⟨b,o,none⟩).run P w = .ok (.agg vs.toArray) w
def Fa (P:Program) (S:TypeId) (f off:Nat):Prop:=∀ (b o:Nat) (w:World),(Instr.fieldAt S (.pointer<|some ⟨b,o,none⟩) f).run P w = .ok (.pointer<|some ⟨b,o+off,none⟩) w
def SlE (P:Program) (T E:TypeId) (sz:Nat):Prop:=P.underlying T=some (.slice E)/\Sz P E sz
def Enters (P:Program) (k:FuncId):Prop:=∀ (args:Array Value) (w:World),(callFunc k args).run P w = .ok (.enter k args) w
def Al (P:Program) (T:TypeId) (zs:List Value):Prop:=∀ w:World,(Instr.alloc T true (.tuple #[])).run P w = .ok (.pointer<|some ⟨w.heap.size,0,none⟩) (w.alloc<|cl zs T)

def MM:TypeDesc->Bool
 | .struct _ | .array _ _=>false
 | _=>true
theorem Ld1.of {P:Program} {T:TypeId} {d:TypeDesc} (h:P.underlying T=some d) (hd:MM d=true):Ld1 P T:=λw a v hv=>by
 have hi:(isAgg T).run P w = .ok false w:=by
  unfold isAgg
  simp only [Sem.run_bind,run_underlying h,Result.andThen_ok]
  cases d <;> first | rfl | (simp [MM] at hd)
 unfold Instr.loadAt loadVar
 simp [Instr.sureAddr,hi,hv]
theorem Sz.of {P:Program} {T:TypeId} {n:Nat} {i:TypeInfo} (h:P.info? T=some i) (hn:i.size=n):Sz P T n:=λw=>by simp [sizeOf,typeInfo,h,hn]

theorem LdN.of {P : Program} {T : TypeId} {n : Nat} {fs : Array Field} (h : P.underlying T = some (.struct fs)) (hs : Sz P T n) : LdN P T n := λw b o vs hl hv => by
 have hi:(isAgg T).run P w = .ok true w:=by unfold isAgg; simp only [Sem.run_bind,run_underlying h,Result.andThen_ok]; rfl
 have key:∀ (k:Nat) (m:Nat) (acc:Array Value),m+k=n->acc=(vs.take m).toArray->(loadCellsFrom ⟨b,o,none⟩ m k acc).run P w = .ok vs.toArray w:=by
  intro k
  induction k with
  | zero =>
   intro m acc hm ha
   have:m=n:=by omega
   subst this
   simp [loadCellsFrom,ha,List.take_of_length_le (Nat.le_of_eq hl)]
  | succ k ih =>
   intro m acc hm ha
   have hmn:m<n:=by omega
   have hc:=hv m hmn
   have hlt:m<vs.length:=by omega
   rw [Zy hlt] at hc
   unfold loadCellsFrom
   simp only [Sem.run_bind,run_load,Addr.add_lit,hc,Result.andThen_ok]
   refine ih (m+1) _ (by omega) ?_
   rw [ha,List.take_succ_eq_append_getElem hlt]
   simp
 unfold Instr.loadAt loadVar loadCells
 simp only [Instr.sureAddr,Sem.run_bind,Sem.run_pure,Result.andThen_ok,hi,if_true,hs w,key n 0 #[] (by omega) (by simp)]

section
variable {P:Program} {e:Env} {h h':SH} {ty:TypeId}

/-! ## Integers and truths -/
theorem aI {t t':TypeId} {x y:Operand} {a b:Int} (hx:e.ev? x=some (.int .i64 a)) (hy:e.ev? y=some (.int .i64 b)) (hr:I64 (a+b)):Vop P e h (.binOp .add t x y t') ty (.int .i64 (a+b)):=
 ⟨by simp,by simp,λρ w d pos after g hρ _=>by simp [execOp,hρ x _ hx,hρ y _ hy,eqGuard_add,binOp_add,Op.intArith,hr.wrap]⟩
theorem Cb {t t':TypeId} {x y:Operand} {a b:Int} (hx:e.ev? x=some (.int .i64 a)) (hy:e.ev? y=some (.int .i64 b)) (hr:I64 (a - b)):Vop P e h (.binOp .sub t x y t') ty (.int .i64 (a - b)):=
 ⟨by simp,by simp,λρ w d pos after g hρ _=>by simp [execOp,hρ x _ hx,hρ y _ hy,eqGuard_sub,binOp_sub,Op.intArith,hr.wrap]⟩
theorem DD {t t':TypeId} {x y:Operand} {a b:Int} (hx:e.ev? x=some (.int .i64 a)) (hy:e.ev? y=some (.int .i64 b)):Vop P e h (.binOp .add t x y t') ty (.int .i64 (IntKind.i64.wrap (a+b))):=
 ⟨by simp,by simp,λρ w d pos after g hρ _=>by simp [execOp,hρ x _ hx,hρ y _ hy,eqGuard_add,binOp_add,Op.intArith]⟩
theorem aN {t t':TypeId} {x y:Operand} {k:IntKind} {a b:Int} (hx:e.ev? x=some (.int k a)) (hy:e.ev? y=some (.int k b)):Vop P e h (.binOp .lss t x y t') ty (.bool (decide (a<b))):=
 ⟨by simp,by simp,λρ w d pos after g hρ _=>by simp [execOp,hρ x _ hx,hρ y _ hy,eqGuard_lss,binOp_lss]⟩
theorem Cc {t t':TypeId} {x y:Operand} {k:IntKind} {a b:Int} (hx:e.ev? x=some (.int k a)) (hy:e.ev? y=some (.int k b)):Vop P e h (.binOp .leq t x y t') ty (.bool (decide (a≤b))):=
 ⟨by simp,by simp,λρ w d pos after g hρ _=>by simp [execOp,hρ x _ hx,hρ y _ hy,eqGuard_leq,binOp_leq]⟩
theorem cu {t t':TypeId} {x y:Operand} {k:IntKind} {a b:Int} (hx:e.ev? x=some (.int k a)) (hy:e.ev? y=some (.int k b)):Vop P e h (.binOp .gtr t x y t') ty (.bool (decide (b<a))):=
 ⟨by simp,by simp,λρ w d pos after g hρ _=>by simp [execOp,hρ x _ hx,hρ y _ hy,eqGuard_gtr,binOp_gtr]⟩
theorem nE {t t':TypeId} {x y:Operand} {k:IntKind} {a b:Int} (hx:e.ev? x=some (.int k a)) (hy:e.ev? y=some (.int k b)):Vop P e h (.binOp .geq t x y t') ty (.bool (decide (b≤a))):=
 ⟨by simp,by simp,λρ w d pos after g hρ _=>by simp [execOp,hρ x _ hx,hρ y _ hy,eqGuard_geq,binOp_geq]⟩
theorem dP {t t':TypeId} {x y:Operand} {k:IntKind} {a b:Int} (hx:e.ev? x=some (.int k a)) (hy:e.ev? y=some (.int k b)):Vop P e h (.binOp .eql t x y t') ty (.bool (a == b)):=
 ⟨by simp,by simp,λρ w d pos after g hρ _=>by simp [execOp,hρ x _ hx,hρ y _ hy,eqGuard_at_int,binOp_eql]⟩
theorem bP {t t':TypeId} {x y:Operand} {k:IntKind} {a b:Int} (hx:e.ev? x=some (.int k a)) (hy:e.ev? y=some (.int k b)):Vop P e h (.binOp .neq t x y t') ty (.bool (a != b)):=
 ⟨by simp,by simp,λρ w d pos after g hρ _=>by simp [execOp,hρ x _ hx,hρ y _ hy,eqGuard_at_int,binOp_neq]⟩
theorem bg {t:TypeId} {x:Operand} {b:Bool} (hx:e.ev? x=some (.bool b)):Vop P e h (.unOp .not t x) ty (.bool (!b)):=
 ⟨by simp,by simp,λρ w d pos after g hρ _=>by simp [execOp,hρ x _ hx,Op.unary]⟩
theorem ag {x:Operand} {i:Nat} {vs:Array Value} {v:Value} (hx:e.ev? x=some (.tuple vs)) (hv:vs[i]? = some v):Vop P e h (.extract x i) ty v :=
 ⟨by simp,by simp,λρ w d pos after g hρ _=>by simp [execOp,hρ x _ hx,Instr.extract,hv]⟩

/-! ## Addresses and loads -/
theorem vF {S:TypeId} {x:Operand} {f off b o o':Nat} (hx:e.ev? x=some (.pointer (some ⟨b,o,none⟩))) (hf:Fa P S f off) (ho:o+off=o'):Vop P e h (.fieldAddr S x f) ty (.pointer (some ⟨b,o',none⟩)):=
 ⟨by simp,by simp,λρ w d pos after g hρ _=>by subst ho; simp [execOp,hρ x _ hx,hf b o w]⟩
theorem v_load {T:TypeId} {x:Operand} {p:Addr} {v:Value} (hx:e.ev? x=some (.pointer (some p))) (hT:Ld1 P T) (ha:At h p v):Vop P e h (.load T x) ty v :=
 ⟨by simp,by simp,λρ w d pos after g hρ hh=>by simp [execOp,hρ x _ hx,hT w p v (ha.cell hh)]⟩
theorem v_loadN {T:TypeId} {x:Operand} {b o n:Nat} {vs:List Value} (hx:e.ev? x=some (.pointer (some ⟨b,o,none⟩))) (hT:LdN P T n) (hl:vs.length=n) (hr:∀ i,(hi:i<vs.length)->At h ⟨b,o+i,none⟩ vs[i]) :
  Vop P e h (.load T x) ty (.agg vs.toArray):=
 ⟨by simp,by simp,λρ w d pos after g hρ hh=>by
  have:=hT w b o vs hl<|λi hi=>by rw [Zy (by omega)]; exact (hr i<|by omega).cell hh
  simp [execOp,hρ x _ hx,this]⟩
theorem aF {t ty':TypeId} {x:Operand} {a:Option Addr} {n cp:Nat} {E:TypeId} (hx:e.ev? x=some (.slice a n cp)) (ht:P.underlying t=some (.slice E)):Vop P e h (.call { callee:=.builtin .len,args := #[x],argTypes := #[t] }) ty' (.int .i64 n):=
 ⟨by simp,by simp,λρ w d pos after g hρ _=>by simp [execOp,resolve,invoke,builtin,hρ x _ hx,Builtin.len_,run_underlying ht,goInt]⟩
theorem vI {T E:TypeId} {x y:Operand} {b o n cp sz k o':Nat} {kd:IntKind} {i:Int} (hx:e.ev? x=some (.slice (some ⟨b,o,none⟩) n cp)) (hy:e.ev? y=some (.int kd i)) (hT:SlE P T E sz) (hi:i=(k:Int)) (hk:k<n) (ho:o+k * sz=o') :
  Vop P e h (.indexAddr T x y) ty (.pointer<|some ⟨b,o',none⟩):=
 ⟨by simp,by simp,λρ w d pos after g hρ _=>by
  subst hi ho
  have h0:(0:Int)≤k/\(k:Int)<n:=by omega
  simp only [execOp,hρ x _ hx,hρ y _ hy,Instr.indexAt,Sem.run_bind,asIntOf,Sem.run_pure,Result.andThen_ok,run_underlying hT.1,if_pos h0,hT.2 w,Int.toNat_natCast,Addr.add_lit]⟩
/-! ## Calls -/
theorem DF {ρ : Operand->Value} (hρ : ∀ x u,e.ev? x=some u -> ρ x=u):∀ (l:List Operand) (vs:List Value),l.mapM e.ev? = some vs->l.map ρ = vs
 | [],vs,hv=>by simpa using hv.symm
 | x::t,vs,hv=>by
  simp only [List.mapM_cons,Option.bind_eq_bind,Option.bind_eq_some_iff,Option.pure_def,Option.some.injEq] at hv
  obtain ⟨u,hu,us,hus,rfl⟩:=hv
  simp [hρ x u hu,DF hρ t us hus]
theorem qD {f:Operand} {az:Array Operand} {ts:Array TypeId} {k:FuncId} {fi cp:Array Value} {vs:List Value} {args:Array Value} (hf:e.ev? f=some (.func (.func k) fi cp)) (has:az.toList.mapM e.ev? = some vs) (hE:Enters P k) (ha:fi++vs.toArray++cp=args)
  {ρ : Operand->Value} (hρ : ∀ x u,e.ev? x=some u -> ρ x=u) (w:World) (d:Option Tmp) (pos:String) (after:Array Edge) (g:Option (Nat×Bool)) :
  (execOp ρ ⟨d,.call { callee:=.value f,args:=az,argTypes:=ts },ty,pos,after,g⟩).run P w = .ok (.enter k args) w:=by
 have e1:Array.map ρ az=vs.toArray:=by
  apply Array.toList_inj.1; simpa using DF hρ az.toList vs has
 simp only [execOp,resolve,hρ f _ hf,Deferred.ofValue,e1,Sem.run_bind,Sem.run_pure,Result.andThen_ok,invoke]
 rw [<- ha]
 exact hE _ _
end

section
variable {c:Cx} {ops:Array Oper} {K:Act->World->Prop} {rest:List Oper} {e:Env} {h h' hr:SH}
theorem ek {d:Option Nat} {op:Op} {ty:TypeId} {pos:String} {after:Array Edge} (hd:∀ k,op≠.defer k)
  (hop:∀ a w,Kn c.n c.ds a e->Holds w h->Same c.w0 w->zR c.P (λv w'=>LsW c.P c.r ops K rest (a.put d v) w') ((execOp a.eval ⟨d,op,ty,pos,after,none⟩).run c.P w)) :
  St c ops K (⟨d,op,ty,pos,after,none⟩::rest) e h:=λa w hk hh hs=>by
 unfold LsW
 rw [if_pos (by simp [Region.wanted])]
 unfold OpW OpV
 rw [Oper.semAt_eq _ _ _ hd]
 exact hop a w hk hh hs

theorem st_call {d:Nat} {f:Operand} {az:Array Operand} {ts:Array TypeId} {ty:TypeId} {pos:String} {after:Array Edge} {k:FuncId} {fi cp:Array Value} {vs:List Value} {args:Array Value} {hf:SH} {R:Value->SH->Prop}
  (hv:e.ev? f=some (.func (.func k) fi cp)) (has:az.toList.mapM e.ev? = some vs) (hE:Enters c.P k) (ha:fi++vs.toArray++cp=args) (ct:Ct c.P k args hf R) (pk:Pk h hf hr) (hd:d<c.n)
  (hn:∀ v h',R v h'->St c ops K rest ((d,v)::e) (h'++hr)) :
  St c ops K (⟨some d,.call { callee:=.value f,args:=az,argTypes:=ts },ty,pos,after,none⟩::rest) e h :=
 ek (by simp) λa w hk hh hs=>by
  rw [qD hv has hE ha hk.evs]
  exact (ct hr w<|hh.pk pk).mono λ_ w' ⟨v,h',he,hR,hH,hS⟩=>⟨v,he,hn v h' hR _ w' (hk.put v hd) hH<|hs.trans hS⟩
def Reads (P:Program) (k:FuncId) (args:Array Value) (hf:SH) (v:Value):Prop:=Ct P k args hf λu h'=>u=v/\h'=hf
theorem Reads.more {P:Program} {k:FuncId} {args:Array Value} {hf big x:SH} {v:Value} (h:Reads P k args hf v) (pk:Pk big hf x):Reads P k args big v:=λhr w hh=>by
 have hp:(big++hr).Perm (hf++(x++hr)):=(pk.perm.append_right hr).trans<|by rw [List.append_assoc]
 exact (h (x++hr) w<|hh.perm hp).mono λ_ _ ⟨u,h',he,⟨hu,hh'⟩,hH,hS⟩=>⟨u,big,he,⟨hu,rfl⟩,by subst hh'; exact hH.perm hp.symm,hS⟩
theorem MN {d:Nat} {f:Operand} {az:Array Operand} {ts:Array TypeId} {ty:TypeId} {pos:String} {after:Array Edge} {k:FuncId} {fi cp:Array Value} {vs:List Value} {args:Array Value} {hf:SH} {v:Value}
  (hv:e.ev? f=some (.func (.func k) fi cp)) (has:az.toList.mapM e.ev? = some vs) (hE:Enters c.P k) (ha:fi++vs.toArray++cp=args) (ct:Reads c.P k args hf v) (pk:Pk h hf hr) (hd:d<c.n)
  (hn:St c ops K rest ((d,v)::e) h) :
  St c ops K (⟨some d,.call { callee:=.value f,args:=az,argTypes:=ts },ty,pos,after,none⟩::rest) e h :=
 ek (by simp) λa w hk hh hs=>by
  rw [qD hv has hE ha hk.evs]
  exact (ct hr w<|hh.pk pk).mono λ_ w' ⟨u,h',he,⟨hu,hh'⟩,hH,hS⟩=>⟨u,he,by subst hu hh'; exact hn _ w' (hk.put _ hd) (hH.perm pk.perm.symm) (hs.trans hS)⟩
theorem KM {d g gd:Nat} {f:Operand} {az:Array Operand} {ts:Array TypeId} {ty:TypeId} {pos:String} {after:Array Edge} {k:FuncId} {fi cp:Array Value} {vs:List Value} {args:Array Value} {hf:SH} {v:Value} {want:Bool}
  (hg:((ops[g]?).bind (·.dst))=some gd) (hgv:e.get? gd=some (.bool want))
  (hv:e.ev? f=some (.func (.func k) fi cp)) (has:az.toList.mapM e.ev? = some vs) (hE:Enters c.P k) (ha:fi++vs.toArray++cp=args) (ct:Reads c.P k args hf v) (pk:Pk h hf hr) (hd:d<c.n)
  (hn:St c ops K rest ((d,v)::e) h) :
  St c ops K (⟨some d,.call { callee:=.value f,args:=az,argTypes:=ts },ty,pos,after,some (g,want)⟩::rest) e h:=λa w hk hh hs=>by
 unfold LsW
 have hy:yielded ops a.tmps g=some want:=by
  unfold yielded
  cases ho:ops[g]? with
  | none=>simp [ho] at hg
  | some o=>simp only [ho,Option.bind_some] at hg; simp [hg,hk.get gd _ hgv]
 rw [if_pos (by simp [Region.wanted,hy])]
 unfold OpW OpV
 rw [Oper.semAt_eq _ _ _ (by simp),qD hv has hE ha hk.evs]
 exact (ct hr w<|hh.pk pk).mono λ_ w' ⟨u,h',he,⟨hu,hh'⟩,hH,hS⟩=>⟨u,he,by subst hu hh'; exact hn _ w' (hk.put _ hd) (hH.perm pk.perm.symm) (hs.trans hS)⟩

/-! ## Stores and new blocks -/
theorem Same.setCell (w:World) (a:Addr) (v:Value):Same w (w.setCell a v):=⟨rfl,rfl,rfl,Nat.le_refl _,by simp [World.setCell],λ_ _=>by simp⟩
theorem Holds.setCell {w:World} {b off:Nat} {l:List Value} {T:TypeId} {k:SH} (hh:Holds w (pt b (cl l T)::k)) (v:Value):Holds (w.setCell ⟨b,off,none⟩ v) (pt b (cl (l.set off v) T)::k):=by
 have h1:w.heap[b]? = some (cl l T):=hh.1
 obtain ⟨hlt,hb⟩:=Array.getElem?_eq_some_iff.1 h1
 refine Holds.modify hh ?_ λk hk=>?_
 ·show (w.heap.modify b _)[b]? = _
  rw [Array.getElem?_eq_getElem (by rw [Array.size_modify]; exact hlt),Array.getElem_modify_self,hb]
  simp [cl]
 ·show (w.heap.modify b _)[k]? = _
  rw [Array.getElem?_modify,if_neg (λe=>hk e.symm)]

def St1 (P:Program) (T:TypeId):Prop:=Sz P T 1
theorem H9 {P:Program} {T:TypeId} (hT:Sz P T 1) {v:Value} (hv:v.oneCell'=true) {w:World} {b off:Nat} {l:List Value} {E:TypeId} (hb:w.heap[b]? = some (cl l E)) (ho:off<l.length) :
  (Instr.storeAt T (.pointer<|some ⟨b,off,none⟩) v).run P w = .ok () (w.setCell ⟨b,off,none⟩ v):=by
 have hcl:w.cell? ⟨b,off,none⟩=some l[off]:=by simp [World.cell?,hb,cl,ho]
 have hfz:w.frozen? ⟨b,off,none⟩=false:=by simp [World.frozen?,hb,cl]
 have hcs:v.cells = #[v]:=by cases v <;> first | rfl | (simp [Value.oneCell'] at hv)
 unfold Instr.storeAt storeVar
 simp only [Instr.sureAddr,Sem.run_bind,Sem.run_pure,Result.andThen_ok,hT w,hcs]
 simp [storeCells,run_store _ _ _ _ _ hv,hcl,hfz,Addr.add_zero']

theorem MO {T E:TypeId} {x y:Operand} {ty:TypeId} {pos:String} {after:Array Edge} {b off:Nat} {l l':List Value} {v:Value} {k:SH}
  (hx:e.ev? x=some (.pointer<|some ⟨b,off,none⟩)) (hy:e.ev? y=some v) (hT:Sz c.P T 1) (hv:v.oneCell'=true) (hs:Sel h (pt b<|cl l E) k) (ho:off<l.length) (hl:SetAt l off v l')
  (hn:St c ops K rest e (pt b (cl l' E)::k)) :
  St c ops K (⟨none,.store T x y,ty,pos,after,none⟩::rest) e h :=
 ek (by simp) λa w hk hh hs'=>by
  have hh':=hh.sel hs
  have hr:=H9 hT hv (E:=E) (l:=l) hh'.1 ho
  simp only [execOp,hk.ev hx,hk.ev hy,Sem.run_bind,hr,Result.andThen_ok,Sem.run_pure]
  rw [<- hl.eq] at hn
  exact hn _ _ hk (Holds.setCell hh' v)<|hs'.trans<|Same.setCell _ _ _

theorem MP {d:Nat} {T ty:TypeId} {pos:String} {after:Array Edge} {zs:List Value} (hA:Al c.P T zs) (hd:d<c.n)
  (hn:∀ b,St c ops K rest ((d,.pointer (some ⟨b,0,none⟩))::e) (pt b (cl zs T)::h)) :
  St c ops K (⟨some d,.alloc T,ty,pos,after,none⟩::rest) e h :=
 ek (by simp) λa w hk hh hs=>by
  simp only [execOp,Sem.run_bind,hA w,Result.andThen_ok,Sem.run_pure]
  exact hn _ _ _ (hk.put _ hd) (Holds.alloc hh _)<|hs.trans (Grew.alloc _ _ rfl).toSame
theorem st_box {d:Nat} {T ty:TypeId} {x:Operand} {pos:String} {after:Array Edge} {v:Value} {zs:List Value} (hx:e.ev? x=some v) (hz:v.cells=zs.toArray) (hd:d<c.n)
  (hn:∀ b,St c ops K rest ((d,.pointer (some ⟨b,0,none⟩))::e) (pt b (cl zs T)::h)) :
  St c ops K (⟨some d,.box T x,ty,pos,after,none⟩::rest) e h :=
 ek (by simp) λa w hk hh hs=>by
  simp only [execOp,hk.ev hx,Instr.box,newVar,newRow,hz,Sem.run_bind,run_newObj_alloc,Result.andThen_ok,Sem.run_pure]
  exact hn _ _ _ (hk.put _ hd) (Holds.alloc hh _)<|hs.trans (Grew.alloc _ _ rfl).toSame
end

def Cd (c:Cx) (x:Code) (Q:Exit->Act->World->Prop) (e:Env) (h:SH):Prop:=∀ a w,Kn c.n c.ds a e->Holds w h->Same c.w0 w->x.wpIn (Fw c.r) 0 c.P Q a w
def Xt (c:Cx) (ex:Exit) (Q:Exit->Act->World->Prop) (e:Env) (h:SH):Prop:=∀ a w,Kn c.n c.ds a e->Holds w h->Same c.w0 w->Q ex a w
def Behind (c:Cx) (y:Code) (Q:Exit->Act->World->Prop):Act->World->Prop:=λa w=>y.wpIn (Fw c.r) 0 c.P Q a w

inductive Pm:SH->SH->Prop
 | refl {h:SH}:Pm h h
 | cons {h h1 k:SH} {x:Res}:Sel h x h1->Pm h1 k->Pm h (x::k)
theorem Pm.perm {h k:SH} (p:Pm h k):h.Perm k:=by
 induction p with
 | refl=>exact .refl _
 | cons s _ ih=>exact s.perm.trans (ih.cons _)

section
variable {c:Cx} {Q:Exit->Act->World->Prop} {e:Env} {h:SH}
theorem Cd.weaken {x:Code} {e':Env} {h':SH} (hs:Env.sub e' e) (hp:h.Perm h') (hc:Cd c x Q e' h'):Cd c x Q e h:=λa w hk hh hw=>hc a w (hk.weaken hs) (hh.perm hp) hw
theorem Xt.weaken {ex:Exit} {e':Env} {h':SH} (hs:Env.sub e' e) (hp:h.Perm h') (hc:Xt c ex Q e' h'):Xt c ex Q e h:=λa w hk hh hw=>hc a w (hk.weaken hs) (hh.perm hp) hw
theorem Holds.drop {w:World} {h':SH} {r:Res} (s:Sel h r h') (hh:Holds w h):Holds w h':=(Holds.sel s hh).2.2
theorem cK (hx:Xt c .normal Q e h):Cd c .skip Q e h:=λa w hk hh hw=>wpIn_skip<|hx a w hk hh hw
theorem EX {l:Nat} (hx:Xt c .normal Q e h):Cd c (.label l) Q e h:=λa w hk hh hw=>wpIn_label<|hx a w hk hh hw
theorem cT (hx:Xt c .ret Q e h):Cd c .ret Q e h:=λa w hk hh hw=>wpIn_ret<|hx a w hk hh hw
theorem aB {id:Nat} (hx:Xt c (.exit id) Q e h):Cd c (.exit id) Q e h:=λa w hk hh hw=>wpIn_exit<|hx a w hk hh hw
theorem cS {x y:Code} (hx:Cd c x (Exit.then (Behind c y Q) Q) e h):Cd c (.seq x y) Q e h:=λa w hk hh hw=>wpIn_seq<|hx a w hk hh hw
theorem cB {id:Nat} {x:Code} (hx:Cd c x (Exit.inBlock id Q) e h):Cd c (.block id x) Q e h:=λa w hk hh hw=>wpIn_block<|hx a w hk hh hw
theorem cC {x:Operand} {y z:Code} {t:Bool} (hx:e.ev? x=some (.bool t)) (ht:t=true->Cd c y Q e h) (hf:t=false->Cd c z Q e h):Cd c (.cond x y z) Q e h :=
 λa w hk hh hw=>wpIn_cond_split (hk.ev hx) (λq=>ht q a w hk hh hw)<|λq=>hf q a w hk hh hw
theorem aQ {x:Operand} {y z:Code} (hx:e.ev? x=some (.bool true)) (ht:Cd c y Q e h):Cd c (.cond x y z) Q e h:=cC hx (λ_=>ht) (λq=>by cases q)
theorem aG {x:Operand} {y z:Code} (hx:e.ev? x=some (.bool false)) (hf:Cd c z Q e h):Cd c (.cond x y z) Q e h:=cC hx (λq=>by cases q) (λ_=>hf)
theorem cR {id:Nat} {l:List Oper} (hs:St c l.toArray (Q .normal) l e h):Cd c (.region id l.toArray false) Q e h:=λa w hk hh hw=>LsW.region<|hs a w hk hh hw

/-! ### Ways out -/
theorem xT {y:Code} (hy:Cd c y Q e h):Xt c .normal (Exit.then (Behind c y Q) Q) e h:=hy
theorem nT {y:Code} (hy:Cd c y Q e h):Nx c (Exit.then (Behind c y Q) Q .normal) e h:=hy
theorem ax (hy:Xt c .normal Q e h):Nx c (Q .normal) e h:=hy
theorem xE {id:Nat} {K:Act->World->Prop} (hx:Xt c (.exit id) Q e h):Xt c (.exit id) (Exit.then K Q) e h:=hx
theorem xR {K:Act->World->Prop} (hx:Xt c .ret Q e h):Xt c .ret (Exit.then K Q) e h:=hx
theorem xB {id:Nat} (hx:Xt c .normal Q e h):Xt c .normal (Exit.inBlock id Q) e h:=hx
theorem xW {id:Nat} (hx:Xt c .ret Q e h):Xt c .ret (Exit.inBlock id Q) e h:=hx
theorem xY {id:Nat} (hx:Xt c .normal Q e h):Xt c (.exit id) (Exit.inBlock id Q) e h:=λa w hk hh hw=>by
 simp only [Exit.inBlock,if_true]; exact hx a w hk hh hw
theorem fF {id id':Nat} (hne:id'≠id) (hx:Xt c (.exit id') Q e h):Xt c (.exit id') (Exit.inBlock id Q) e h:=λa w hk hh hw=>by
 simp only [Exit.inBlock,if_neg hne]; exact hx a w hk hh hw

/-! ### A loop -/
theorem exists_least {p:Nat->Prop} (h:∃ n,p n):∃ n,p n/\∀ m,p m->n≤m:=by
 obtain ⟨n,hn⟩:=h
 induction n using Nat.strongRecOn with
 | _ n ih =>
  by_cases hm:∃ m,m<n/\p m
  ·obtain ⟨m,h1,h2⟩:=hm; exact ih m h1 h2
  ·exact ⟨n,hn,λm h2=>by
    rcases Nat.lt_or_ge m n with h1 | h1
    ·exact absurd ⟨m,h1,h2⟩ hm
    ·exact h1⟩
noncomputable def least (p:Nat->Prop):Nat:=Classical.epsilon λn=>p n/\∀ m,p m->n≤m
theorem oI {p:Nat->Prop} (h:∃ n,p n):p (least p)/\∀ m,p m->least p≤m:=Classical.epsilon_spec (exists_least h)
def JI {σ : Type} (c:Cx) (E : σ -> Env) (H : σ -> SH) (Φ : σ -> Prop) (μ : σ -> Nat) (s : σ) (a:Act) (w:World):Prop :=
 ∃ s',Φ s' /\ μ s' < μ s/\Kn c.n c.ds a (E s')/\Holds w (H s')/\Same c.w0 w
theorem cd_loop {σ : Type} {x : Code} (E : σ -> Env) (H : σ -> SH) (Φ : σ -> Prop) (μ : σ -> Nat) (s0 : σ) (h0 : Φ s0) (hs : Env.sub (E s0) e) (hp : Sub (H s0) h)
    (hr:∀ s,Φ s->Cd c x (Exit.then (JI c E H Φ μ s) Q) (E s) (H s)):Cd c (.loop x) Q e h:=λa w hk hh hw=>by
  let p:Act->World->Nat->Prop:=λa w n=>∃ s,Φ s /\ μ s=n/\Kn c.n c.ds a (E s)/\Holds w (H s)/\Same c.w0 w
  have hmin:∀ a w n,p a w n->p a w (least<|p a w)/\least (p a w)≤n:=λa w n hn=>⟨(oI ⟨n,hn⟩).1,(oI ⟨n,hn⟩).2 n hn⟩
  refine wpIn_loop (λa w=>∃ n,p a w n) (λa w=>least<|p a w) ⟨_,s0,h0,rfl,hk.weaken hs,hh.sub hp,hw⟩ λa w ⟨n,hn⟩=>?_
  obtain ⟨⟨s,h1,h2,h3,h4,h5⟩,_⟩:=hmin a w n hn
  refine wpIn_mono (hr s h1 a w h3 h4 h5) λex a' w' hq=>?_
  cases ex <;> first
    | exact hq
    | (obtain ⟨s', g1, g2, g3, g4, g5⟩ := hq
       have hp':p a' w' (μ s'):=⟨s',g1,rfl,g3,g4,g5⟩
       exact ⟨⟨_,hp'⟩,Nat.lt_of_le_of_lt (hmin a' w' _ hp').2 (h2 ▸ g2)⟩)
theorem MQ {σ : Type} {E : σ -> Env} {H : σ -> SH} {Φ : σ -> Prop} {μ : σ -> Nat} {s : σ} (s' : σ) (h1 : Φ s') (h2 : μ s' < μ s) (hs:Env.sub (E s') e) (hp:Sub (H s') h) :
  Xt c .normal (Exit.then (JI c E H Φ μ s) Q) e h:=λ_ _ hk hh hw=>⟨s',h1,h2,hk.weaken hs,hh.sub hp,hw⟩

/-! ### The function -/
def Post (w0:World) (hr:SH) (R:Value->SH->Prop) (en:Ending) (w:World):Prop:=∃ v h',en = .returned v/\R v h'/\Holds w (h'++hr)/\Same w0 w
def Env.ofArgs:Nat->List Value->Env
 | _,[]=>[]
 | i,v::t=>(i,v)::Env.ofArgs (i+1) t
theorem Env.ofArgs_get {l:List Value}:∀ {i j:Nat} {v:Value},(Env.ofArgs i l).get? j=some v->i≤j/\l[j - i]? = some v:=by
 induction l with
 | nil=>intro i j v hv; simp [Env.ofArgs,Env.get?] at hv
 | cons x t ih =>
  intro i j v hv
  by_cases hij:i=j
  ·subst hij
   simp only [Env.ofArgs,Env.get?,Nat.beq_refl,cond_true,Option.some.injEq] at hv
   simp [hv]
  ·simp only [Env.ofArgs,Env.get?,zP hij,cond_false] at hv
   obtain ⟨h1,h2⟩:=ih hv
   refine ⟨by omega,?_⟩
   rw [show j - i=(j - (i+1))+1 by omega]
   simpa using h2
theorem aL {P:Program} {k:FuncId} {fn:Func} {x:Code} {n:Nat} {l:List Value} {hf:SH} {R:Value->SH->Prop} (hF:P.funcs[k]? = some fn) (hb:fn.body=some x) (hnt:fn.ntmps=n) (hn:l.length≤n)
  (hc:∀ (hr:SH) (w0:World),Cd ⟨P,none,n,[],w0⟩ x (bodyPost P fn<|Post w0 hr R) (Env.ofArgs 0 l) (hf++hr)):Ct P k l.toArray hf R:=λhr w hh=>by
 refine uO (r:=none) (n:=0)<|callsIn_of_wp hF hb trivial<|hc hr w _ w ⟨?_,rfl,λi v hi=>?_⟩ hh<|Same.refl w
 ·simp; omega
 ·obtain ⟨_,h2⟩:=Env.ofArgs_get hi
  simp only [Nat.sub_zero] at h2
  have hlt:i<l.length:=(List.getElem?_eq_some_iff.1 h2).1
  rw [Zy hlt,Option.some.injEq] at h2
  simp [Array.getElem?_append,hlt,h2]

def Env.res? (e:Env):List ResultVar->Option (List Value)
 | []=>some []
 | .tmp t::rest=>(e.get? t).bind λv=>(Env.res? e rest).map (v :: ·)
 | .cell _ _::_=>none
def kC:List Value->Value
 | [v]=>v
 | vs=>.tuple vs.toArray
theorem mi {P : Program} {fn : Func} {n : Nat} {ds : List Deferred} {a : Act} (hk : Kn n ds a e) {vs : List Value} (hr : e.res? fn.results.toList = some vs) (w : World) :
  (results fn a.tmps).run P w = .ok (kC vs) w:=by
 have key : ∀ (f : ResultVar -> Sem Value) (_ : ∀ t, f (.tmp t) = pure (a.tmps.getD t undef)) (l : List ResultVar) (vs : List Value), e.res? l = some vs -> (l.mapM f).run P w = .ok vs w := by
  intro f hf l
  induction l with
  | nil=>intro vs hv; simp [Env.res?] at hv; subst hv; simp
  | cons x t ih =>
   intro vs hv
   cases x with
   | cell a' t'=>simp [Env.res?] at hv
   | tmp t' =>
    simp only [Env.res?,Option.bind_eq_some_iff,Option.map_eq_some_iff] at hv
    obtain ⟨u,hu,us,hus,rfl⟩:=hv
    simp [List.mapM_cons,ih us hus,hf,Array.getD_eq_getD_getElem?,hk.get t' u hu]
 unfold results
 rw [<- Array.toArray_toList (xs:=fn.results),List.mapM_toArray]
 simp only [Sem.run_bind,Sem.run_map]
 rw [key _ (λ_=>rfl) _ _ hr]
 simp only [Result.andThen_ok,Sem.run_pure]
 cases vs with
 | nil=>simp [kC]
 | cons v t=>cases t <;> simp [kC]
section
variable {P:Program} {n:Nat} {w0:World} {fn:Func} {hr h':SH} {R:Value->SH->Prop} {r:Option Nat} {vs:List Value}
theorem xt_ret (hv:e.res? fn.results.toList=some vs) (hR:R (kC vs) h') (hp:Sub (h'++hr) h):Xt ⟨P,r,n,[],w0⟩ .ret (bodyPost P fn (Post w0 hr R)) e h :=
 λa w hk hh hw=>⟨hk.defers,_,mi hk hv w,_,h',rfl,hR,hh.sub hp,hw⟩
theorem xt_end (hv:e.res? fn.results.toList=some vs) (hR:R (kC vs) h') (hp:Sub (h'++hr) h):Xt ⟨P,r,n,[],w0⟩ .normal (bodyPost P fn (Post w0 hr R)) e h :=
 λa w hk hh hw=>⟨hk.defers,_,mi hk hv w,_,h',rfl,hR,hh.sub hp,hw⟩
end
end

theorem EY (m j:Nat):(Array.replicate m false).getD j false=false:=by
 rcases Nat.lt_or_ge j m with h | h
 ·simp [h]
 ·simp [h]

section
variable {c:Cx} {ops:Array Oper} {pre:Nat->Bool} {hC:SH} {K:Act->World->Prop}

def opH (c : Cx) (ops : Array Oper) (pre : Nat -> Bool) (hC : SH) (i : Nat) (N : Act -> SH -> Prop) (a : Act) (h : SH) : Prop :=
 match ops[i]? with
 | none=>False
 | some o=>if Region.wanted o (yielded ops a.tmps) then ∀ w,Holds w h->Same c.w0 w->OpV c.P c.r o a w λv w'=>∃ h',Holds w' h'/\Same c.w0 w'/\(pre i=true->Sub hC h->Sub hC h')/\N (a.put o.dst v) h'
   else N (a.put o.dst undef) h
def zS (c:Cx) (ops:Array Oper) (pre:Nat->Bool) (hC:SH) (K:Act->World->Prop):Nat->Array Bool->Act->SH->Prop
 | 0,listed,a,h=>Region.ready .any ops listed=[]/\∀ w,Holds w h->Same c.w0 w->K a w
 | f+1,listed,a,h=>(Region.ready .any ops listed=[]->∀ w,Holds w h->Same c.w0 w->K a w)/\∀ i∈Region.ready .any ops listed,opH c ops pre hC i (zS c ops pre hC K f (listed.setIfInBounds i true)) a h

theorem zS.wp {Q : Exit -> Act -> World -> Prop} (hQ : ∀ a w, K a w -> Q .normal a w) : ∀ (f : Nat) (listed : Array Bool) (a : Act) (h : SH) (w : World), zS c ops pre hC K f listed a h -> Holds w h -> Same c.w0 w ->
  wpAnyIn (Fw c.r) 0 c.P .any ops Q f listed a w
 | 0,_,_,_,w,H,h1,h2=>⟨H.1,hQ _ _ (H.2 w h1 h2)⟩
 | f + 1, listed, a, h, w, H, h1, h2 => by
  refine ⟨λh0=>hQ _ _ (H.1 h0 w h1 h2),λi hi=>?_⟩
  have hh:=H.2 i hi
  unfold opH at hh
  unfold wpOpIn
  split
  ·rename_i ho; rw [ho] at hh; exact hh.elim
  ·rename_i o ho
   simp only [ho] at hh
   split
   ·rename_i hw
    rw [if_pos hw] at hh
    exact OpW.wpIn ((hh w h1 h2).mono λv w' ⟨h',g1,g2,_,g4⟩=>zS.wp hQ f _ _ h' w' g4 g1 g2)
   ·rename_i hw
    rw [if_neg hw] at hh
    exact ⟨λ_ _=>trivial,zS.wp hQ f _ _ h w hh h1 h2⟩

/-! ### What waits for what -/
inductive Dep (ops:Array Oper):Nat->Nat->Prop
 | direct {j i:Nat} {o:Oper} {e:Edge}:ops[j]? = some o->e∈o.after->Region.binds .any e=true->e.on=i->Dep ops j i
 | trans {j i:Nat} {o:Oper} {e:Edge}:ops[j]? = some o->e∈o.after->Region.binds .any e=true->Dep ops e.on i->Dep ops j i
def Closed (ops:Array Oper) (listed:Array Bool):Prop:=∀ j o,ops[j]? = some o->listed.getD j false=true->∀ e∈o.after,Region.binds .any e=true->listed.getD e.on false=true
theorem Dep.listed {listed:Array Bool} (hc:Closed ops listed) {j i:Nat} (h:Dep ops j i) (hj:listed.getD j false=true):listed.getD i false=true:=by
 induction h with
 | direct ho he hb hi=>subst hi; exact hc _ _ ho hj _ he hb
 | trans ho he hb _ ih=>exact ih (hc _ _ ho hj _ he hb)
theorem Dep.notReady {listed:Array Bool} (hc:Closed ops listed) {j i:Nat} (h:Dep ops j i) (hi:listed.getD i false=false):j ∉ Region.ready .any ops listed:=λhr=>by
 obtain ⟨_,o,ho,hall⟩:=mem_ready.1 hr
 cases h with
 | direct ho' he hb hi' =>
  rw [ho] at ho'; cases ho'
  subst hi'
  rw [hall _ he hb] at hi; cases hi
 | trans ho' he hb hd =>
  rw [ho] at ho'; cases ho'
  rw [hd.listed hc (hall _ he hb)] at hi; cases hi
theorem Closed.set {listed:Array Bool} (hc:Closed ops listed) {i:Nat} (hi:i∈Region.ready .any ops listed):Closed ops (listed.setIfInBounds i true):=λj o ho hl e he hb=>by
 obtain ⟨_,oi,hoi,hall⟩:=mem_ready.1 hi
 by_cases hij:i=j
 ·subst hij
  rw [hoi] at ho; cases ho
  exact getD_set_true<|hall e he hb
 ·rw [getD_set_ne false hij] at hl
  exact getD_set_true<|hc j o ho hl e he hb

/-! ### An operation that only reads what stays may be taken first -/
def jN (c:Cx) (ops:Array Oper) (hC:SH) (o:Oper) (v:Value) (a:Act):Prop :=
 (Region.wanted o (yielded ops a.tmps)=true/\∀ x w,Holds w (hC++x)->Same c.w0 w->OpV c.P c.r o a w λu w'=>u=v/\Holds w' (hC++x)/\Same c.w0 w') ∨
 (Region.wanted o (yielded ops a.tmps)=false/\v=undef)

theorem Ce {r:Option Nat} {o:Oper} (hs:∀ cs b,o.op≠.select cs b) (hd:∀ k,o.op≠.defer k) (a:Act) (dst:Option Tmp) (v:Value) (h:∀ d,dst=some d->d ∉ o.looksAt ops) :
  o.semAt r (a.put dst v).eval=o.semAt r a.eval:=by
 rw [Oper.semAt_eq _ _ _ hd,Oper.semAt_eq _ _ _ hd,execOp_put o hs a dst v h]

theorem jN.put {oi oj:Oper} {v:Value} {a:Act} (hs:∀ cs b,oi.op≠.select cs b) (hd:∀ k,oi.op≠.defer k) (hap:∀ d,oj.dst=some d->d ∉ oi.looksAt ops) (u:Value) (hy:jN c ops hC oi v a):jN c ops hC oi v (a.put oj.dst u):=by
 unfold jN OpV at *
 rw [Ce hs hd a oj.dst u hap,wanted_put oi a oj.dst u hap]
 exact hy

theorem jN.opH {i:Nat} {o:Oper} {v:Value} {a:Act} {h hP:SH} (hi:ops[i]? = some o) (hsub:Sub hP h) (hy:jN c ops hP o v a) {N:Act->SH->Prop} (hn:N (a.put o.dst v) h):opH c ops pre hC i N a h:=by
 unfold Ck.opH
 simp only [hi]
 rcases hy with ⟨hw,hv⟩ | ⟨hw,rfl⟩
 ·simp only [hw,if_true]
  intro w h1 h2
  obtain ⟨x,hx⟩:=hsub
  exact (hv x w (h1.perm hx) h2).mono λu w' ⟨e,g1,g2⟩=>⟨h,g1.perm hx.symm,g2,λ_ hs=>hs,e ▸ hn⟩
 ·simp only [hw,Bool.false_eq_true,if_false]; exact hn

theorem zT {i : Nat} {oi : Oper} {v : Value} {hP : SH} (hkp : hP = hC ∨ hP = []) (hi : ops[i]? = some oi) (hsel : ∀ (j : Nat) (o : Oper), ops[j]? = some o -> (∀ cs b, o.op ≠ .select cs b) /\ ∀ k, o.op ≠ .defer k) :
  ∀ (f:Nat) (listed:Array Bool) (a:Act) (h:SH),Closed ops listed->Sub hP h ->
   (∀ j oj,ops[j]? = some oj->j≠i->listed.getD j true=false->(∀ e∈oj.after,Region.binds .any e=true->e.on≠i)->oi.apart ops oj=true) ->
   (hP=[]∨∀ j,j≠i->listed.getD j true=false->pre j=false->Dep ops j i) ->
   i∈Region.ready .any ops listed->jN c ops hP oi v a ->
   zS c ops pre hC K f (listed.setIfInBounds i true) (a.put oi.dst v) h->zS c ops pre hC K (f+1) listed a h:=by
 intro f
 induction f with
 | zero =>
  intro listed a h _ hsub _ _ hr hy H
  refine ⟨λh0=>(by rw [h0] at hr; cases hr),λj hj=>?_⟩
  by_cases hji:j=i
  ·subst hji; exact hy.opH hi hsub H
  ·have:=ready_mono hj hji
   rw [H.1] at this
   cases this
 | succ f ih =>
  intro listed a h hcl hsub hfree hdep hr hy H
  refine ⟨λh0=>(by rw [h0] at hr; cases hr),λj hj=>?_⟩
  by_cases hji:j=i
  ·subst hji; exact hy.opH hi hsub H
  ·have h1 := H.2 j<|ready_mono hj hji
   obtain ⟨hjun,oj,hoj,hall⟩:=mem_ready.1 hj
   have hiun:listed.getD i false=false:=by
    have h0:=(mem_ready.1 hr).1
    rcases Nat.lt_or_ge i listed.size with h' | h'
    ·simp [h'] at h0 ⊢; exact h0
    ·simp [Array.getElem?_eq_none h']
   have hkeep : ∀ h', (pre j = true -> Sub hC h -> Sub hC h') -> Sub hP h' := λh' k => by
    rcases hdep with h0 | hdep
    ·subst h0; exact Sub.nil _
    ·rcases hkp with h0 | h0
     ·subst h0
      refine k ?_ hsub
      cases hp:pre j with
      | true=>rfl
      | false=>exact absurd hj ((hdep j hji hjun hp).notReady hcl hiun)
     ·subst h0; exact Sub.nil _
   have hnot:∀ e∈oj.after,Region.binds .any e=true->e.on≠i:=λe he hb heq=>by
    have h1:=hall e he hb
    rw [heq,hiun] at h1; cases h1
   obtain ⟨ap1,ap2,ap3⟩:=Oper.apart_spec<|hfree j oj hoj hji hjun hnot
   have hnext : ∀ (u : Value) (h' : SH), Sub hP h' -> zS c ops pre hC K f ((listed.setIfInBounds i true).setIfInBounds j true) ((a.put oi.dst v).put oj.dst u) h' -> zS c ops pre hC K (f + 1) (listed.setIfInBounds j true) (a.put oj.dst u) h' := by
    intro u h' hs' hN
    refine ih _ _ h' (hcl.set hj) hs' (λk ok hk hki hun hno=>hfree k ok hk hki ?_ hno) (hdep.imp id λhdep k hki hun hp=>hdep k hki (by
      by_cases hjk:j=k
      ·subst hjk; exact hjun
      ·rw [getD_set_ne true hjk] at hun; exact hun) hp) (ready_mono hr (Ne.symm hji)) (hy.put (hsel i oi hi).1 (hsel i oi hi).2 ap3 u) ?_
    ·by_cases hjk:j=k
     ·subst hjk; exact hjun
     ·rw [getD_set_ne true hjk] at hun; exact hun
    ·rw [Array.setIfInBounds_comm _ _ hji,<- Act.put_comm a v u ap2]
     exact hN
   unfold opH at h1 ⊢
   simp only [hoj] at h1 ⊢
   rw [wanted_put oj a oi.dst v ap1] at h1
   split
   ·rename_i hw
    rw [if_pos hw] at h1
    intro w g1 g2
    have h2:=h1 w g1 g2
    unfold OpV at h2 ⊢
    rw [Ce (hsel j oj hoj).1 (hsel j oj hoj).2 a oi.dst v ap1] at h2
    exact iW (λu w' ⟨h',k1,k2,k3,k4⟩=>⟨h',k1,k2,k3,hnext u h' (hkeep h' k3) k4⟩) h2
   ·rename_i hw
    rw [if_neg hw] at h1
    exact hnext undef h hsub h1

/-! ### The check of an order -/
def tb (M:Array Nat) (j i:Nat):Bool:=(M.getD j 0).testBit i
def tbOk (ops:Array Oper) (M:Array Nat):Bool :=
 (List.range ops.size).all λj=>(List.range ops.size).all λi => !tb M j i || (match ops[j]? with
  | some o=>o.after.any λe=>Region.binds .any e && (e.on == i || (decide (e.on<j) && tb M e.on i))
  | none=>false)
theorem MS {M:Array Nat} (hok:tbOk ops M=true):∀ (j i:Nat),j<ops.size->i<ops.size->tb M j i=true->Dep ops j i:=by
 intro j
 induction j using Nat.strongRecOn with
 | _ j ih =>
  intro i hj hi ht
  have h1:=List.all_eq_true.1 (List.all_eq_true.1 hok j<|List.mem_range.2 hj) i<|List.mem_range.2 hi
  rw [ht] at h1
  simp only [Bool.not_true,Bool.false_or] at h1
  cases ho:ops[j]? with
  | none=>rw [ho] at h1; cases h1
  | some o =>
   rw [ho] at h1
   obtain ⟨e,he,hb⟩:=Array.any_eq_true'.1 h1
   simp only [Bool.and_eq_true,Bool.or_eq_true,beq_iff_eq,decide_eq_true_eq] at hb
   rcases hb.2 with h2 | ⟨h2,h3⟩
   ·exact .direct ho he hb.1 h2
   ·exact .trans ho he hb.1<|ih e.on h2 i (by omega) hi h3

inductive Ord where
 | nil
 | cons (x:Nat×Bool) (t:Ord)
 | two (i:Nat) (t:Ord) (j:Nat) (u:Ord)
 | three (i:Nat) (t:Ord) (j:Nat) (u:Ord) (k:Nat) (v:Ord)
 | pure (i:Nat) (t:Ord)
def Ord.length:Ord->Nat
 | .nil=>0
 | .cons _ t=>t.length+1
 | .two _ t _ _=>t.length+1
 | .three _ t _ _ _ _=>t.length+1
 | .pure _ t=>t.length+1
def ork:List (Nat×Nat)->Ord->Ord
 | [],o=>o
 | (i,0)::t,o=>.cons (i,false) (ork t o)
 | (i,1)::t,o=>.cons (i,true) (ork t o)
 | (i,_)::t,o=>.pure i (ork t o)
def ol:List (Nat×Bool)->Ord->Ord
 | [],o=>o
 | x::t,o=>.cons x (ol t o)
def qE (ops : Array Oper) (pre : Nat -> Bool) (M : Array Nat) : Ord -> Array Bool -> Bool
 | .nil,listed=>(Region.ready .any ops listed).isEmpty
 | .cons (i,true) t,listed=>(Region.ready .any ops listed).contains i && Region.free .any ops listed i && pre i &&
   ((List.range ops.size).all λj=>j == i || listed.getD j true || pre j || tb M j i) && qE ops pre M t (listed.setIfInBounds i true)
 | .cons (i,false) t,listed=>decide (Region.ready .any ops listed=[i]) && qE ops pre M t (listed.setIfInBounds i true)
 | .two i t j u,listed=>decide (Region.ready .any ops listed=[i,j]) && decide (t.length=u.length) && qE ops pre M t (listed.setIfInBounds i true) && qE ops pre M u (listed.setIfInBounds j true)
 | .three i t j u k v,listed=>decide (Region.ready .any ops listed=[i,j,k]) && decide (t.length=u.length) && decide (t.length=v.length) && qE ops pre M t (listed.setIfInBounds i true) && qE ops pre M u (listed.setIfInBounds j true) && qE ops pre M v (listed.setIfInBounds k true)
 | .pure i t,listed=>(Region.ready .any ops listed).contains i && Region.free .any ops listed i && qE ops pre M t (listed.setIfInBounds i true)
def uP (ops:Array Oper):Bool:=ops.all λo=>match o.op with | .select _ _=>false | .defer _=>false | _=>true
theorem sD (h:uP ops=true):∀ (j:Nat) (o:Oper),ops[j]? = some o->(∀ cs b,o.op≠.select cs b)/\∀ k,o.op≠.defer k:=λj o ho=>by
 have hm:o∈ops:=Array.mem_of_getElem? ho
 have:=Array.all_eq_true'.1 h o hm
 exact ⟨(λcs b e=>by rw [e] at this; cases this),(λk e=>by rw [e] at this; cases this)⟩

def DrL (c : Cx) (ops : Array Oper) (pre : Nat -> Bool) (hC : SH) (K : Act -> World -> Prop) : Ord -> Env -> SH -> Prop
 | .nil,e,h=>Nx c K e h
 | .cons (i,true) t,e,h=>Sub hC h/\∃ o v,ops[i]? = some o/\(∀ a,Kn c.n c.ds a e->jN c ops hC o v a)/\∃ e',(∀ a,Kn c.n c.ds a e->Kn c.n c.ds (a.put o.dst v) e')/\DrL c ops pre hC K t e' h
 | .cons (i,false) t,e,h=>∃ o,ops[i]? = some o/\(∀ a,Kn c.n c.ds a e->Region.wanted o (yielded ops a.tmps)=true)/\St c ops (λa' w'=>∃ e' h',Kn c.n c.ds a' e'/\Holds w' h'/\Same c.w0 w'/\(pre i=true->Sub hC h->Sub hC h')/\DrL c ops pre hC K t e' h') [o] e h
 | .two i t j u,e,h =>
   (∃ o,ops[i]? = some o/\(∀ a,Kn c.n c.ds a e->Region.wanted o (yielded ops a.tmps)=true)/\St c ops (λa' w'=>∃ e' h',Kn c.n c.ds a' e'/\Holds w' h'/\Same c.w0 w'/\(pre i=true->Sub hC h->Sub hC h')/\DrL c ops pre hC K t e' h') [o] e h) /\
   (∃ o,ops[j]? = some o/\(∀ a,Kn c.n c.ds a e->Region.wanted o (yielded ops a.tmps)=true)/\St c ops (λa' w'=>∃ e' h',Kn c.n c.ds a' e'/\Holds w' h'/\Same c.w0 w'/\(pre j=true->Sub hC h->Sub hC h')/\DrL c ops pre hC K u e' h') [o] e h)
 | .three i t j u k v,e,h =>
   (∃ o,ops[i]? = some o/\(∀ a,Kn c.n c.ds a e->Region.wanted o (yielded ops a.tmps)=true)/\St c ops (λa' w'=>∃ e' h',Kn c.n c.ds a' e'/\Holds w' h'/\Same c.w0 w'/\(pre i=true->Sub hC h->Sub hC h')/\DrL c ops pre hC K t e' h') [o] e h) /\
   (∃ o,ops[j]? = some o/\(∀ a,Kn c.n c.ds a e->Region.wanted o (yielded ops a.tmps)=true)/\St c ops (λa' w'=>∃ e' h',Kn c.n c.ds a' e'/\Holds w' h'/\Same c.w0 w'/\(pre j=true->Sub hC h->Sub hC h')/\DrL c ops pre hC K u e' h') [o] e h) /\
   (∃ o,ops[k]? = some o/\(∀ a,Kn c.n c.ds a e->Region.wanted o (yielded ops a.tmps)=true)/\St c ops (λa' w'=>∃ e' h',Kn c.n c.ds a' e'/\Holds w' h'/\Same c.w0 w'/\(pre k=true->Sub hC h->Sub hC h')/\DrL c ops pre hC K v e' h') [o] e h)
 | .pure i t,e,h=>∃ o v,ops[i]? = some o/\(∀ a,Kn c.n c.ds a e->jN c ops [] o v a)/\∃ e',(∀ a,Kn c.n c.ds a e->Kn c.n c.ds (a.put o.dst v) e')/\DrL c ops pre hC K t e' h

theorem jF {i:Nat} {e:Env} {h:SH} {a:Act} {N:Act->SH->Prop} {L:Env->SH->Prop} (hk:Kn c.n c.ds a e)
  (H:∃ o,ops[i]? = some o/\(∀ a,Kn c.n c.ds a e->Region.wanted o (yielded ops a.tmps)=true)/\St c ops (λa' w'=>∃ e' h',Kn c.n c.ds a' e'/\Holds w' h'/\Same c.w0 w'/\(pre i=true->Sub hC h->Sub hC h')/\L e' h') [o] e h)
  (hN:∀ a' e' h',Kn c.n c.ds a' e'->L e' h'->N a' h'):opH c ops pre hC i N a h:=by
 obtain ⟨o,ho,hwant,hs⟩:=H
 unfold opH
 simp only [ho]
 rw [if_pos (hwant a hk)]
 intro w h1 h2
 have h3:=hs a w hk h1 h2
 unfold LsW at h3
 rw [if_pos (hwant a hk)] at h3
 exact OpV.mono (λv w' ⟨e',h',k1,k2,k3,k4,k5⟩=>⟨h',k2,k3,k4,hN _ e' h' k1 k5⟩) h3

theorem DrL.any {M : Array Nat} (hsel : uP ops = true) (hM : tbOk ops M = true) : ∀ (p : Ord) (listed : Array Bool) (e : Env) (h : SH) (a : Act), listed.size = ops.size -> Closed ops listed -> qE ops pre M p listed = true ->
  DrL c ops pre hC K p e h->Kn c.n c.ds a e->zS c ops pre hC K p.length listed a h
 | .nil,listed,e,h,a,_,_,hB,H,hk=>⟨by simpa [qE] using hB,λw h1 h2=>H a w hk h1 h2⟩
 | .cons (i,true) t,listed,e,h,a,hsz,hcl,hB,H,hk=>by
  simp only [qE,Bool.and_eq_true] at hB
  obtain ⟨⟨⟨⟨hr,hf⟩,hp⟩,hd⟩,hB'⟩:=hB
  obtain ⟨hsub,o,v,ho,hy,e',he',hn⟩:=H
  have hr':i∈Region.ready .any ops listed:=by simpa using hr
  have hilt:i<ops.size:=(Array.getElem?_eq_some_iff.1 ho).1
  refine zT (.inl rfl) ho (sD hsel) t.length listed a h hcl hsub (Region.free_spec ho hf) (.inr λj hji hun hpj=>?_) hr' (hy a hk)
   (DrL.any hsel hM t _ e' h _ Zh (hcl.set hr') hB' hn<|he' a hk)
  have hjlt:j<ops.size:=by
   rcases Nat.lt_or_ge j ops.size with h' | h'
   ·exact h'
   ·rw [<- hsz] at h'; simp [Array.getElem?_eq_none h'] at hun
  have h1:=List.all_eq_true.1 hd j<|List.mem_range.2 hjlt
  simp only [Bool.or_eq_true,beq_iff_eq,hji,hun,hpj,Bool.false_eq_true,or_false,false_or] at h1
  exact MS hM j i hjlt hilt h1
 | .cons (i,false) t,listed,e,h,a,hsz,hcl,hB,H,hk=>by
  simp only [qE,Bool.and_eq_true,decide_eq_true_eq] at hB
  obtain ⟨hr,hB'⟩:=hB
  refine ⟨λh0=>(by rw [hr] at h0; cases h0),λj hj=>?_⟩
  rw [hr] at hj
  have hji:j=i:=Zg
  subst hji
  have hrj:j∈Region.ready .any ops listed:=by rw [hr]; simp
  exact jF hk H λa' e' h' k1 k2=>DrL.any hsel hM t _ e' h' a' Zh (hcl.set hrj) hB' k2 k1
 | .two i t k u,listed,e,h,a,hsz,hcl,hB,H,hk=>by
  simp only [qE,Bool.and_eq_true,decide_eq_true_eq] at hB
  obtain ⟨⟨⟨hr,hlen⟩,hB1⟩,hB2⟩:=hB
  refine ⟨λh0=>(by rw [hr] at h0; cases h0),λj hj=>?_⟩
  have hrj:=hj
  rw [hr] at hj
  have hji:j=i∨j=k:=Zg
  rcases hji with e' | e'
  ·subst e'
   exact jF hk H.1 λa' e' h' k1 k2=>DrL.any hsel hM t _ e' h' a' Zh (hcl.set hrj) hB1 k2 k1
  ·subst e'
   refine jF hk H.2 λa' e' h' k1 k2=>?_
   have:=DrL.any hsel hM u _ e' h' a' Zh (hcl.set hrj) hB2 k2 k1
   rw [<- hlen] at this
   exact this
 | .three i t k u l v,listed,e,h,a,hsz,hcl,hB,H,hk=>by
  simp only [qE,Bool.and_eq_true,decide_eq_true_eq] at hB
  obtain ⟨⟨⟨⟨⟨hr,hlen⟩,hlen2⟩,hB1⟩,hB2⟩,hB3⟩:=hB
  refine ⟨λh0=>(by rw [hr] at h0; cases h0),λj hj=>?_⟩
  have hrj:=hj
  rw [hr] at hj
  have hji:j=i∨j=k∨j=l:=Zg
  rcases hji with e' | e' | e'
  ·subst e'
   exact jF hk H.1 λa' e' h' k1 k2=>DrL.any hsel hM t _ e' h' a' Zh (hcl.set hrj) hB1 k2 k1
  ·subst e'
   refine jF hk H.2.1 λa' e' h' k1 k2=>?_
   have:=DrL.any hsel hM u _ e' h' a' Zh (hcl.set hrj) hB2 k2 k1
   rw [<- hlen] at this
   exact this
  ·subst e'
   refine jF hk H.2.2 λa' e' h' k1 k2=>?_
   have:=DrL.any hsel hM v _ e' h' a' Zh (hcl.set hrj) hB3 k2 k1
   rw [<- hlen2] at this
   exact this
 | .pure i t,listed,e,h,a,hsz,hcl,hB,H,hk=>by
  simp only [qE,Bool.and_eq_true] at hB
  obtain ⟨⟨hr,hf⟩,hB'⟩:=hB
  obtain ⟨o,v,ho,hy,e',he',hn⟩:=H
  have hr':i∈Region.ready .any ops listed:=by simpa using hr
  exact zT (.inr rfl) ho (sD hsel) t.length listed a h hcl (Sub.nil _) (Region.free_spec ho hf) (.inl rfl) hr' (hy a hk)
   (DrL.any hsel hM t _ e' h _ Zh (hcl.set hr') hB' hn<|he' a hk)
theorem jk {c:Cx} {id:Nat} {l:List Oper} {Q:Exit->Act->World->Prop} {e:Env} {h:SH} (p:Ord) (pre:Nat->Bool) (hC:SH) (hm:c.P.follows .mixedOrders=true)
  (hB:(uP l.toArray && tbOk l.toArray (Region.before l.toArray) && qE l.toArray pre (Region.before l.toArray) p (Array.replicate l.toArray.size false) && decide (p.length=l.toArray.size))=true)
  (hd:DrL c l.toArray pre hC (Q .normal) p e h):Cd c (.region id l.toArray true) Q e h:=λa w hk hh hw=>by
 simp only [Bool.and_eq_true,decide_eq_true_eq] at hB
 obtain ⟨⟨⟨h1,h2⟩,h3⟩,h4⟩:=hB
 refine wpIn_region_any hm ?_
 rw [<- h4]
 have hcl:Closed l.toArray (Array.replicate l.toArray.size false):=λj o _ hl=>by rw [EY] at hl; cases hl
 have hany:=DrL.any h1 h2 p _ e h a (by simp) hcl h3 hd hk
 rw [h4] at hany ⊢
 exact zS.wp (λ_ _ hq=>hq) _ _ _ _ _ hany (Holds.grew hh<|Grew.drawn w _)<|hw.trans (Grew.drawn w _).toSame

/-! ### The steps of such a walk -/
variable {e:Env} {h:SH} {t:Ord}
theorem bA (hn:Nx c K e h):DrL c ops pre hC K .nil e h:=hn
theorem dr_val {i d:Nat} {op:Op} {ty:TypeId} {pos:String} {after:Array Edge} {v:Value} (hi:ops[i]? = some ⟨some d,op,ty,pos,after,none⟩) (hs:Sub hC h) (hv:Vop c.P e hC op ty v) (hd:d<c.n)
  (hn:DrL c ops pre hC K t ((d,v)::e) h):DrL c ops pre hC K (.cons (i,true) t) e h :=
 ⟨hs,_,v,hi,λa hk=>.inl ⟨by simp [Region.wanted],λx w h1 h2=>by
  unfold OpV
  rw [Oper.semAt_eq _ _ _ hv.1,hv.2.2 a.eval w _ _ _ _ hk.evs (bi.append.1 h1).1]
  exact ⟨rfl,h1,h2⟩⟩,_,λa hk=>hk.put v hd,hn⟩
theorem eZ {g gd:Nat} {b:Bool} (hg:((ops[g]?).bind (·.dst))=some gd) (hgv:e.get? gd=some (.bool b)) {n:Nat} {ds:List Deferred} {a:Act} (hk:Kn n ds a e):yielded ops a.tmps g=some b:=by
 unfold yielded
 cases ho:ops[g]? with
 | none=>simp [ho] at hg
 | some o=>simp only [ho,Option.bind_some] at hg; simp [hg,hk.get gd _ hgv]
theorem dr_valg {i d g gd:Nat} {op:Op} {ty:TypeId} {pos:String} {after:Array Edge} {v:Value} {want:Bool} (hi:ops[i]? = some ⟨some d,op,ty,pos,after,some (g,want)⟩) (hg:((ops[g]?).bind (·.dst))=some gd) (hgv:e.get? gd=some (.bool want))
  (hs:Sub hC h) (hv:Vop c.P e hC op ty v) (hd:d<c.n)
  (hn:DrL c ops pre hC K t ((d,v)::e) h):DrL c ops pre hC K (.cons (i,true) t) e h :=
 ⟨hs,_,v,hi,λa hk=>.inl ⟨by simp [Region.wanted,eZ hg hgv hk],λx w h1 h2=>by
  unfold OpV
  rw [Oper.semAt_eq _ _ _ hv.1,hv.2.2 a.eval w _ _ _ _ hk.evs (bi.append.1 h1).1]
  exact ⟨rfl,h1,h2⟩⟩,_,λa hk=>hk.put v hd,hn⟩
theorem dr_skip {i d g gd:Nat} {op:Op} {ty:TypeId} {pos:String} {after:Array Edge} {want b:Bool} (hi:ops[i]? = some ⟨some d,op,ty,pos,after,some (g,want)⟩) (hg:((ops[g]?).bind (·.dst))=some gd) (hgv:e.get? gd=some (.bool b)) (hb:b = !want)
  (hs:Sub hC h) (hd:d<c.n) (hn:DrL c ops pre hC K t ((d,undef)::e) h):DrL c ops pre hC K (.cons (i,true) t) e h :=
 ⟨hs,_,undef,hi,λa hk=>.inr ⟨by subst hb; cases want <;> simp [Region.wanted,eZ hg hgv hk],rfl⟩,_,λa hk=>hk.put undef hd,hn⟩
/-! Those that look at no block. -/
theorem drp_val {i d:Nat} {op:Op} {ty:TypeId} {pos:String} {after:Array Edge} {v:Value} (hi:ops[i]? = some ⟨some d,op,ty,pos,after,none⟩) (hv:Vop c.P e [] op ty v) (hd:d<c.n)
  (hn:DrL c ops pre hC K t ((d,v)::e) h):DrL c ops pre hC K (.pure i t) e h :=
 ⟨_,v,hi,λa hk=>.inl ⟨by simp [Region.wanted],λx w h1 h2=>by
  unfold OpV
  rw [Oper.semAt_eq _ _ _ hv.1,hv.2.2 a.eval w _ _ _ _ hk.evs trivial]
  exact ⟨rfl,h1,h2⟩⟩,_,λa hk=>hk.put v hd,hn⟩
theorem MU {i d g gd:Nat} {op:Op} {ty:TypeId} {pos:String} {after:Array Edge} {v:Value} {want:Bool} (hi:ops[i]? = some ⟨some d,op,ty,pos,after,some (g,want)⟩) (hg:((ops[g]?).bind (·.dst))=some gd) (hgv:e.get? gd=some (.bool want))
  (hv:Vop c.P e [] op ty v) (hd:d<c.n)
  (hn:DrL c ops pre hC K t ((d,v)::e) h):DrL c ops pre hC K (.pure i t) e h :=
 ⟨_,v,hi,λa hk=>.inl ⟨by simp [Region.wanted,eZ hg hgv hk],λx w h1 h2=>by
  unfold OpV
  rw [Oper.semAt_eq _ _ _ hv.1,hv.2.2 a.eval w _ _ _ _ hk.evs trivial]
  exact ⟨rfl,h1,h2⟩⟩,_,λa hk=>hk.put v hd,hn⟩
theorem MV {i d g gd:Nat} {op:Op} {ty:TypeId} {pos:String} {after:Array Edge} {want b:Bool} (hi:ops[i]? = some ⟨some d,op,ty,pos,after,some (g,want)⟩) (hg:((ops[g]?).bind (·.dst))=some gd) (hgv:e.get? gd=some (.bool b)) (hb:b = !want)
  (hd:d<c.n) (hn:DrL c ops pre hC K t ((d,undef)::e) h):DrL c ops pre hC K (.pure i t) e h :=
 ⟨_,undef,hi,λa hk=>.inr ⟨by subst hb; cases want <;> simp [Region.wanted,eZ hg hgv hk],rfl⟩,_,λa hk=>hk.put undef hd,hn⟩
theorem yx {f:Operand} {az:Array Operand} {ts:Array TypeId} {ty:TypeId} {pos:String} {after:Array Edge} {d:Option Nat} {gu:Option (Nat×Bool)} {k:FuncId} {fi cp:Array Value} {vs:List Value} {args:Array Value} {hf hr:SH} {v:Value}
  (hv:e.ev? f=some (.func (.func k) fi cp)) (has:az.toList.mapM e.ev? = some vs) (hE:Enters c.P k) (ha:fi++vs.toArray++cp=args) (ct:Reads c.P k args hf v) (pk:Pk hC hf hr) {a:Act} (hk:Kn c.n c.ds a e)
  (hw:Region.wanted ⟨d,.call { callee:=.value f,args:=az,argTypes:=ts },ty,pos,after,gu⟩ (yielded ops a.tmps)=true) :
  jN c ops hC ⟨d,.call { callee:=.value f,args:=az,argTypes:=ts },ty,pos,after,gu⟩ v a :=
 .inl ⟨hw,λx w h1 h2=>by
  unfold OpV
  rw [Oper.semAt_eq _ _ _ (by simp),qD hv has hE ha hk.evs]
  have hp:(hC++x).Perm (hf++(hr++x)):=(pk.perm.append_right x).trans<|by rw [List.append_assoc]
  exact (ct (hr++x) w (h1.perm hp)).mono λ_ w' ⟨u,h',he,⟨hu,hh'⟩,hH,hS⟩=>⟨u,he,hu,by subst hh'; exact hH.perm hp.symm,h2.trans hS⟩⟩
theorem dr_call {i d:Nat} {f:Operand} {az:Array Operand} {ts:Array TypeId} {ty:TypeId} {pos:String} {after:Array Edge} {k:FuncId} {fi cp:Array Value} {vs:List Value} {args:Array Value} {hf hr:SH} {v:Value}
  (hi:ops[i]? = some ⟨some d,.call { callee:=.value f,args:=az,argTypes:=ts },ty,pos,after,none⟩) (hs:Sub hC h)
  (hv:e.ev? f=some (.func (.func k) fi cp)) (has:az.toList.mapM e.ev? = some vs) (hE:Enters c.P k) (ha:fi++vs.toArray++cp=args) (ct:Reads c.P k args hf v) (pk:Pk hC hf hr) (hd:d<c.n)
  (hn:DrL c ops pre hC K t ((d,v)::e) h):DrL c ops pre hC K (.cons (i,true) t) e h :=
 ⟨hs,_,v,hi,λ_ hk=>yx hv has hE ha ct pk hk (by simp [Region.wanted]),_,λ_ hk=>hk.put v hd,hn⟩
theorem MW {i d g gd:Nat} {f:Operand} {az:Array Operand} {ts:Array TypeId} {ty:TypeId} {pos:String} {after:Array Edge} {k:FuncId} {fi cp:Array Value} {vs:List Value} {args:Array Value} {hf hr:SH} {v:Value} {want:Bool}
  (hi:ops[i]? = some ⟨some d,.call { callee:=.value f,args:=az,argTypes:=ts },ty,pos,after,some (g,want)⟩) (hg:((ops[g]?).bind (·.dst))=some gd) (hgv:e.get? gd=some (.bool want)) (hs:Sub hC h)
  (hv:e.ev? f=some (.func (.func k) fi cp)) (has:az.toList.mapM e.ev? = some vs) (hE:Enters c.P k) (ha:fi++vs.toArray++cp=args) (ct:Reads c.P k args hf v) (pk:Pk hC hf hr) (hd:d<c.n)
  (hn:DrL c ops pre hC K t ((d,v)::e) h):DrL c ops pre hC K (.cons (i,true) t) e h :=
 ⟨hs,_,v,hi,λ_ hk=>yx hv has hE ha ct pk hk (by simp [Region.wanted,eZ hg hgv hk]),_,λ_ hk=>hk.put v hd,hn⟩
def EffK (c:Cx) (ops:Array Oper) (pre:Nat->Bool) (hC:SH) (K:Act->World->Prop) (i:Nat) (t:Ord) (h:SH) (a':Act) (w':World):Prop :=
 ∃ e' h',Kn c.n c.ds a' e'/\Holds w' h'/\Same c.w0 w'/\(pre i=true->Sub hC h->Sub hC h')/\DrL c ops pre hC K t e' h'
theorem aV {i:Nat} {d:Option Nat} {op:Op} {ty:TypeId} {pos:String} {after:Array Edge} (hi:ops[i]? = some ⟨d,op,ty,pos,after,none⟩)
  (hn:St c ops (EffK c ops pre hC K i t h) [⟨d,op,ty,pos,after,none⟩] e h):DrL c ops pre hC K (.cons (i,false) t) e h :=
 ⟨_,hi,λ_ _=>by simp [Region.wanted],hn⟩
theorem MX {i:Nat} {h0:SH} (hs:pre i=true->Sub hC h0->Sub hC h) (hn:DrL c ops pre hC K t e h):St c ops (EffK c ops pre hC K i t h0) [] e h :=
 λ_ _ hk hh hw=>⟨e,h,hk,hh,hw,hs,hn⟩
theorem mR {i j:Nat} {t u:Ord} {d d':Option Nat} {op op':Op} {ty ty':TypeId} {pos pos':String} {after after':Array Edge} (hi:ops[i]? = some ⟨d,op,ty,pos,after,none⟩) (hj:ops[j]? = some ⟨d',op',ty',pos',after',none⟩)
  (h1:St c ops (EffK c ops pre hC K i t h) [⟨d,op,ty,pos,after,none⟩] e h) (h2:St c ops (EffK c ops pre hC K j u h) [⟨d',op',ty',pos',after',none⟩] e h):DrL c ops pre hC K (.two i t j u) e h :=
 ⟨⟨_,hi,λ_ _=>by simp [Region.wanted],h1⟩,⟨_,hj,λ_ _=>by simp [Region.wanted],h2⟩⟩
theorem DrL.weaken {e':Env} (hs:Env.sub e' e) (hn:DrL c ops pre hC K t e' h):DrL c ops pre hC K t e h:=by
 cases t with
 | nil=>exact Nx.weaken hs hn
 | cons p t =>
  obtain ⟨i,b⟩:=p
  cases b with
  | true =>
   obtain ⟨h1,o,v,h2,h3,e2,h4,h5⟩:=hn
   exact ⟨h1,o,v,h2,λa hk=>h3 a (hk.weaken hs),e2,λa hk=>h4 a (hk.weaken hs),h5⟩
  | false =>
   obtain ⟨o,h1,h2,h3⟩:=hn
   exact ⟨o,h1,λa hk=>h2 a (hk.weaken hs),λa w hk hh hw=>h3 a w (hk.weaken hs) hh hw⟩
 | two i t j u =>
  obtain ⟨⟨o,h1,h2,h3⟩,⟨o',h4,h5,h6⟩⟩:=hn
  exact ⟨⟨o,h1,λa hk=>h2 a (hk.weaken hs),λa w hk hh hw=>h3 a w (hk.weaken hs) hh hw⟩,⟨o',h4,λa hk=>h5 a (hk.weaken hs),λa w hk hh hw=>h6 a w (hk.weaken hs) hh hw⟩⟩
 | three i t j u k v =>
  obtain ⟨⟨o,h1,h2,h3⟩,⟨o',h4,h5,h6⟩,⟨o'',h7,h8,h9⟩⟩:=hn
  exact ⟨⟨o,h1,λa hk=>h2 a (hk.weaken hs),λa w hk hh hw=>h3 a w (hk.weaken hs) hh hw⟩,⟨o',h4,λa hk=>h5 a (hk.weaken hs),λa w hk hh hw=>h6 a w (hk.weaken hs) hh hw⟩,⟨o'',h7,λa hk=>h8 a (hk.weaken hs),λa w hk hh hw=>h9 a w (hk.weaken hs) hh hw⟩⟩
 | pure i t =>
  obtain ⟨o,v,h2,h3,e2,h4,h5⟩:=hn
  exact ⟨o,v,h2,λa hk=>h3 a (hk.weaken hs),e2,λa hk=>h4 a (hk.weaken hs),h5⟩
end
theorem bB {c:Cx} {id:Nat} {l:List Oper} {Q:Exit->Act->World->Prop} {e:Env} {h:SH} (p:Ord) (pre:Nat->Bool) (hm:c.P.follows .mixedOrders=true)
  (hB:(uP l.toArray && tbOk l.toArray (Region.before l.toArray) && qE l.toArray pre (Region.before l.toArray) p (Array.replicate l.toArray.size false) && decide (p.length=l.toArray.size))=true)
  (hd:DrL c l.toArray pre h (Q .normal) p e h):Cd c (.region id l.toArray true) Q e h:=jk p pre h hm hB hd
def allR':Nat->Nat->Ord
 | _,0=>.nil
 | i,n+1=>.cons (i,true) (allR' (i+1) n)
def allR (n:Nat):Ord:=allR' 0 n
end Go.Ck
namespace Go.Ck
open Go Go.RowKit

def Inf (P:Program) (E:TypeId) (z:Value) (sz bytes:Nat):Prop:=(P.info? E).map (λi=>(i.zero,i.size,i.bytes))=some (some z,sz,bytes)
theorem Inf.parts {P:Program} {E:TypeId} {z:Value} {sz bytes:Nat} (h:Inf P E z sz bytes):∃ i,P.info? E=some i/\i.zero=some z/\i.size=sz/\i.bytes=bytes:=by
 unfold Inf at h
 cases hi:P.info? E with
 | none=>rw [hi] at h; cases h
 | some i=>rw [hi] at h; simp at h; exact ⟨i,rfl,h.1,h.2.1,h.2.2⟩
theorem Inf.sz {P:Program} {E:TypeId} {z:Value} {sz bytes:Nat} (h:Inf P E z sz bytes):Sz P E sz:=by
 obtain ⟨i,hi,_,hs,_⟩:=h.parts
 exact Sz.of hi hs

def ints (l:List Int):List Value:=l.map (Value.int .i64)
def bools (l:List Bool):List Value:=l.map Value.bool
theorem EZ (l:List Int):(ints l).length=l.length:=by simp [ints]
theorem DI (l:List Bool):(bools l).length=l.length:=by simp [bools]
theorem yS {P:Program} (w:World) (t e:TypeId) (len:Nat) (parts:Array (Nat×Value)) (cells:Array Value) (ie:TypeInfo) (z:Value)
  (hu:P.underlying t=some (.slice e)) (hie:P.info? e=some ie) (hz:ie.zero=some z) (hsmall:¬ len * ie.size>2 ^ 24) (hpos:¬ len * ie.size=0)
  (h:Instr.fill (λi=>some (i * ie.size,ie.size)) ((Array.range (len * ie.size)).map (z.cells[· % z.cells.size]!)) parts.toList=some cells) :
  (Instr.buildSlice t len parts).run P w = .ok (.slice (some ⟨w.heap.size,0,none⟩) len len) (w.alloc<|.cells cells e):=by
 simp [Instr.buildSlice,run_underlying hu,sizeOf,typeInfo,zeroValue,hie,hz,hsmall,hpos,h,newRow]

section
variable {c:Cx} {ops:Array Oper} {K:Act->World->Prop} {rest:List Oper} {e:Env} {h h' hr:SH}

theorem ak {d : Nat} {T E ty : TypeId} {len : Nat} {parts : Array (Nat × Operand)} {pos : String} {after : Array Edge} {z : Value} {sz bytes : Nat} {vs : List Value} {cells : List Value}
  (hvs:parts.toList.mapM (λp=>e.ev? p.2)=some vs) (hT:c.P.underlying T=some (.slice E)) (hE:Inf c.P E z sz bytes) (hs1:Nat.ble (len * sz) 16777216=true) (hs2:Nat.beq (len * sz) 0=false)
  (hf:Instr.fill (λi=>some (i * sz,sz)) ((Array.range (len * sz)).map (z.cells[· % z.cells.size]!)) ((parts.toList.map (·.1)).zip vs)=some cells.toArray) (hd:d<c.n)
  (hnx:∀ b,St c ops K rest ((d,.slice (some ⟨b,0,none⟩) len len)::e) (pt b (cl cells E)::h)) :
  St c ops K (⟨some d,.buildSlice T len parts,ty,pos,after,none⟩::rest) e h :=
 ek (by simp) λa w hk hh hs => by
  obtain ⟨ie,h1,h2,h3,h4⟩:=hE.parts
  have hmap:∀ (l:List (Nat×Operand)) (vs:List Value),l.mapM (λp=>e.ev? p.2)=some vs->(l.map λp=>(p.1,a.eval p.2))=(l.map (·.1)).zip vs:=by
   intro l
   induction l with
   | nil=>intro vs hv; simp at hv; subst hv; rfl
   | cons p t ih =>
    intro vs hv
    simp only [List.mapM_cons,Option.bind_eq_bind,Option.bind_eq_some_iff,Option.pure_def,Option.some.injEq] at hv
    obtain ⟨u,hu,us,hus,rfl⟩:=hv
    simp [hk.ev hu,ih us hus]
  have hpl:(parts.map λ(i,x)=>(i,a.eval x)).toList=(parts.toList.map (·.1)).zip vs:=by
   rw [<- hmap parts.toList vs hvs]; simp
  have:=yS (P:=c.P) w T E len (parts.map λ(i,x)=>(i,a.eval x)) cells.toArray ie z hT h1 h2 (by rw [h3]; have:=Nat.le_of_ble_eq_true hs1; omega)
   (by rw [h3]; intro h0; rw [h0] at hs2; cases hs2) (by rw [h3,hpl]; exact hf)
  simp only [execOp,Sem.run_bind,this,Result.andThen_ok,Sem.run_pure]
  exact hnx _ _ _ (hk.put _ hd) (Holds.alloc hh _)<|hs.trans (Grew.alloc _ _ rfl).toSame

/-! ## A row that grows -/
def vec (v:Value) (E:TypeId) (sz n:Nat) (l:List Value):Res where
 dom b:=∃ m cp,v = .slice (some ⟨b,0,none⟩) m cp
 ok f:=l.length=n * sz/\((v = .slice none 0 0/\n=0)∨∃ b cp j,v = .slice (some ⟨b,0,none⟩) n cp/\f b=some (cl (l++j) E)/\n≤cp/\cp≤maxLen/\(l++j).length=cp * sz)
 loc f g he:=λ⟨h1,h2⟩=>⟨h1,h2.imp id λ⟨b,cp,j,hv,hb,hr⟩=>⟨b,cp,j,hv,by rw [<- he b ⟨n,cp,hv⟩]; exact hb,hr⟩⟩
 pres f:=λ⟨_,h2⟩ b ⟨m,cp,hv⟩=>by
  rcases h2 with ⟨h3,_⟩ | ⟨b',cp',j,h3,hb,_⟩
  ·rw [h3] at hv; cases hv
  ·rw [h3] at hv; cases hv; rw [hb]; rfl
end

section
variable {P:Program} {e:Env} {h h':SH} {ty:TypeId}
def PtT (P:Program) (T E:TypeId):Prop:=P.underlying T=some (.pointer E)
theorem dI {T E t':TypeId} {x y:Operand} {a:Option Addr} {n cp:Nat} (hx:e.ev? x=some (.slice a n cp)) (hy:e.ev? y=some (.slice none 0 0)) (hT:P.underlying T=some (.slice E)):Vop P e h (.binOp .eql T x y t') ty (.bool a.isNone):=
 ⟨by simp,by simp,λρ w d pos after g hρ _=>by
  have hq:∀ k,(Op.equalIn (k+1) T (.slice a n cp)<|.slice none 0 0).run P w = .ok a.isNone w:=λk=>by cases a <;> simp [Op.equalIn,run_underlying hT]
  simp [execOp,hρ x _ hx,hρ y _ hy,eqGuard_at_slice,binOp,Op.equal,Op.maxDepth,hq 9999]⟩
theorem yT {T E t':TypeId} {x y:Operand} {a:Option Addr} {n cp:Nat} (hx:e.ev? x=some (.slice a n cp)) (hy:e.ev? y=some (.slice none 0 0)) (hT:P.underlying T=some (.slice E)):Vop P e h (.binOp .neq T x y t') ty (.bool (!a.isNone)):=
 ⟨by simp,by simp,λρ w d pos after g hρ _=>by
  have hq:∀ k,(Op.equalIn (k+1) T (.slice a n cp)<|.slice none 0 0).run P w = .ok a.isNone w:=λk=>by cases a <;> simp [Op.equalIn,run_underlying hT]
  simp [execOp,hρ x _ hx,hρ y _ hy,eqGuard_at_slice,binOp,Op.equal,Op.maxDepth,hq 9999]⟩
end

/-! ## A part of a row is written -/
theorem Holds.setRow {w:World} {b:Nat} {l:List Value} {T:TypeId} {k:SH} (hh:Holds w (pt b (cl l T)::k)) (l':List Value):Holds (w.setRow b l'.toArray) (pt b (cl l' T)::k):=
 Holds.modify hh (setRow_heap w b l.toArray l'.toArray T (0,0) hh.1) λ_ hc=>setRow_other w b _ _ hc
theorem Same.setRow (w:World) (b:Nat) (cs:Array Value) {l:List Value} {T:TypeId} (hb:w.heap[b]? = some (cl l T)):Same w (w.setRow b cs):=⟨rfl,rfl,rfl,Nat.le_refl _,by simp,oG (b:=b) (λo ho=>by rw [hb] at ho; cases ho; rfl) (λo ho=>by rw [setRow_heap w b l.toArray cs T (0,0) hb] at ho; cases ho; rfl) λc hc=>setRow_other w b c _ hc⟩
def splice (l:List Value) (o:Nat) (vs:List Value):List Value:=l.take o++vs++l.drop (o+vs.length)

section
variable {c:Cx} {ops:Array Oper} {K:Act->World->Prop} {rest:List Oper} {e:Env} {h h' hr:SH}
end

/-! ## Maps from numbers -/
def mU (m:List (Int×Value)):List (Value×Value):=m.map λp=>(.int .i64 p.1,p.2)
def sF (m:List (Int×Value)) (k:Int):Option Value:=(m.find? (·.1 == k)).map (·.2)
def nG:List (Int×Value)->Int->Value->List (Int×Value)
 | [],k,v=>[(k,v)]
 | p::t,k,v=>if p.1=k then (k,v)::t else p::nG t k v
def Brn (es:Array MapEntry) (ck:Nat) (m:List (Int×Value)):Prop:=(∀ x∈es.toList,x.born<ck)/\(es.toList.map (·.born)).Nodup/\(m.map (·.1)).Nodup
def mpr (b:Nat) (m:List (Int×Value)):Res where
 dom:=(· = b)
 ok f:=∃ es ck,f b=some (.map es ck)/\es.toList.map (λx=>(x.key,x.val))=mU m/\Brn es ck m
 loc f g he:=λ⟨es,ck,h1,h2⟩=>⟨es,ck,by rw [<- he b rfl]; exact h1,h2⟩
 pres f:=λ⟨es,ck,h1,_⟩ b' hb=>by rw [hb,h1]; rfl

def dA (m:List (Int×Value)) (k:Int):Option (Nat×Value):=(m.findIdx? (·.1 == k)).bind λj=>(sF m k).map λv=>(j,v)
theorem uQ (k : Int) : ∀ (es : List MapEntry) (m : List (Int × Value)) (i : Nat), es.map (λx => (x.key, x.val)) = mU m ->
  Instr.findNow (.int .i64) (.int .i64 k) es i=some ((dA m k).map λp=>(i+p.1,p.2))
 | [],m,i,h=>by
  have:m=[]:=by cases m with | nil=>rfl | cons _ _=>simp [mU] at h
  subst this; simp [Instr.findNow,dA]
 | x :: es, m, i, h => by
  cases m with
  | nil=>simp [mU] at h
  | cons p t =>
   simp only [List.map_cons,mU,List.cons.injEq,Prod.mk.injEq] at h
   obtain ⟨⟨h1,h2⟩,h3⟩:=h
   unfold Instr.findNow
   rw [h1]
   by_cases hp:p.1=k
   ·simp [Instr.sameNow,hp,sF,List.findIdx?_cons,h2,dA]
   ·have hpk:(k == p.1)=false:=by simp; exact λe=>hp e.symm
    have hpk':(p.1 == k)=false:=by simp [hp]
    have ih:=uQ k es t (i+1) h3
    simp only [Instr.sameNow,if_true,hpk]
    rw [ih]
    simp only [dA,List.findIdx?_cons,hpk',Bool.false_eq_true,if_false,sF,List.find?_cons,Option.some.injEq]
    cases t.findIdx? (·.1 == k) with
    | none=>rfl
    | some j=>simp only [Option.map_some,Option.bind_some]; cases h:(List.find? (·.1 == k) t) <;> simp [Nat.add_assoc,Nat.add_comm 1 j]
end Go.Ck
