/- A part of the proof of TopNinesSaid: no condition beyond what each theorem says. -/
import Derived.Test.YtkohflnifdpahaaN12
set_option linter.all false
namespace Go.V
open Go.Proofs
noncomputable def specs28:List Spec:=[]
def hints28:List (Nat×List Nat):=[]
noncomputable def F28 (N:Nat) (x:Unit):Out ((List (List Int))×((List Int)×Unit)) :=
  .ret (([([(123:Int),(45:Int),(-60:Int),(7:Int)]:List Int),([(132:Int),(45:Int),(60:Int),(7:Int)]:List Int)]:List (List Int)),(([(1:Int),(1:Int)]:List Int),()))
theorem e28 (N:Nat) (x:Unit):vfn Try.prog (phi specs28) hints28 N Try.f11 false false .unit (.prod (.list (.list (.int .i64))) (.prod (.list (.int .i64)) .unit)) x=F28 N x:=by
  kernel_rfl
noncomputable def f28 (x:Unit):Out ((List (List Int))×((List Int)×Unit)):=F28 fuel x
noncomputable def sp28:Spec:=⟨11,.call,.unit,(.prod (.list (.list (.int .i64))) (.prod (.list (.int .i64)) .unit)),false,false,f28⟩
theorem c28:Contract Try.prog sp28:=contract_at (l:=specs28) (arg:=.unit) (res:=(.prod (.list (.list (.int .i64))) (.prod (.list (.int .i64)) .unit))) (multi:=false) (own:=false) (F:=f28) mixed all_nil Try.func11 rfl hints28 fun x _=>⟨fuel,e28 fuel x⟩
noncomputable def specs30:List Spec:=[]
def hints30:List (Nat×List Nat):=[]
noncomputable def F30 (N:Nat) (x:Unit):Out (Int×(Int×((List Int)×((List Int)×Unit)))) :=
  .ret ((10:Int),((3:Int),(([(4:Int),(1:Int),(0:Int)]:List Int),(([(13:Int),(26:Int),(44:Int)]:List Int),()))))
theorem e30 (N:Nat) (x:Unit):vfn Try.prog (phi specs30) hints30 N Try.f13 false false .unit (.prod (.int .i64) (.prod (.int .i64) (.prod (.list (.int .i64)) (.prod (.list (.int .i64)) .unit)))) x=F30 N x:=by
  kernel_rfl
noncomputable def f30 (x:Unit):Out (Int×(Int×((List Int)×((List Int)×Unit)))):=F30 fuel x
noncomputable def sp30:Spec:=⟨13,.call,.unit,(.prod (.int .i64) (.prod (.int .i64) (.prod (.list (.int .i64)) (.prod (.list (.int .i64)) .unit)))),false,false,f30⟩
theorem c30:Contract Try.prog sp30:=contract_at (l:=specs30) (arg:=.unit) (res:=(.prod (.int .i64) (.prod (.int .i64) (.prod (.list (.int .i64)) (.prod (.list (.int .i64)) .unit))))) (multi:=false) (own:=false) (F:=f30) mixed all_nil Try.func13 rfl hints30 fun x _=>⟨fuel,e30 fuel x⟩
noncomputable def specs31:List Spec:=[]
def hints31:List (Nat×List Nat):=[(4,[0,1,5])]
noncomputable def L31_0 (N:Nat) (n_L31_0:Nat) (x:((List Int)×((List Int)×Unit))) (i_1:Int):Out Bool :=
  vloop Try.prog (phi specs31) hints31 N Try.f14 false false .bool [.at 1,.at 1,.at 0,.at 1,.at 0] n_L31_0 [.d (.list (.int .i64)) x.1,.d (.list (.int .i64)) x.2.1,.und,.und,.und,.d (.int .i64) i_1,.und,.und,.und,.und,.und,.und,.und,.und,.und,.und,.und,.und,.und,.und,.und,.und,.und,.und,.und,.und]
noncomputable def F31 (N:Nat) (x:((List Int)×((List Int)×Unit))):Out Bool :=
  match ((lenI x.1) != (lenI x.2.1)) with
  | true =>
    .ret false
  | false =>
    L31_0 N N x (0:Int)
theorem e31 (N:Nat) (x:((List Int)×((List Int)×Unit))):vfn Try.prog (phi specs31) hints31 N Try.f14 false false (.prod (.list (.int .i64)) (.prod (.list (.int .i64)) .unit)) .bool x=F31 N x:=by
  kernel_rfl
noncomputable def f31 (x:((List Int)×((List Int)×Unit))):Out Bool:=F31 fuel x
noncomputable def sp31:Spec:=⟨14,.call,(.prod (.list (.int .i64)) (.prod (.list (.int .i64)) .unit)),.bool,false,false,f31⟩
theorem c31:Contract Try.prog sp31:=contract_at (l:=specs31) (arg:=(.prod (.list (.int .i64)) (.prod (.list (.int .i64)) .unit))) (res:=.bool) (multi:=false) (own:=false) (F:=f31) mixed all_nil Try.func14 rfl hints31 fun x _=>⟨fuel,e31 fuel x⟩
noncomputable def specs70:List Spec:=[]
def hints70:List (Nat×List Nat):=[]
noncomputable def F70 (N:Nat) (x:(Int×(Int×(Int×Unit)))):Out Bool :=
  match (decide (x.1 >= x.2.1)) with
  | true =>
    .ret (decide (x.1<=x.2.2.1))
  | false =>
    .ret false
theorem e70 (N:Nat) (x:(Int×(Int×(Int×Unit)))):vfn Try.prog (phi specs70) hints70 N Try.f35 false false (.prod (.int .i64) (.prod (.int .i64) (.prod (.int .i64) .unit))) .bool x=F70 N x:=by
  kernel_rfl
noncomputable def f70 (x:(Int×(Int×(Int×Unit)))):Out Bool:=F70 fuel x
noncomputable def sp70:Spec:=⟨35,.call,(.prod (.int .i64) (.prod (.int .i64) (.prod (.int .i64) .unit))),.bool,false,false,f70⟩
theorem c70:Contract Try.prog sp70:=contract_at (l:=specs70) (arg:=(.prod (.int .i64) (.prod (.int .i64) (.prod (.int .i64) .unit)))) (res:=.bool) (multi:=false) (own:=false) (F:=f70) mixed all_nil Try.func35 rfl hints70 fun x _=>⟨fuel,e70 fuel x⟩
noncomputable def specs71:List Spec:=[]
def hints71:List (Nat×List Nat):=[]
noncomputable def F71 (N:Nat) (x:(Int×Unit)):Out Bool :=
  match (decide (x.1 >= (1:Int))) with
  | true =>
    .ret (decide (x.1<=(4:Int)))
  | false =>
    .ret false
theorem e71 (N:Nat) (x:(Int×Unit)):vfn Try.prog (phi specs71) hints71 N Try.f36 false false (.prod (.int .i64) .unit) .bool x=F71 N x:=by
  kernel_rfl
noncomputable def f71 (x:(Int×Unit)):Out Bool:=F71 fuel x
noncomputable def sp71:Spec:=⟨36,.call,(.prod (.int .i64) .unit),.bool,false,false,f71⟩
theorem c71:Contract Try.prog sp71:=contract_at (l:=specs71) (arg:=(.prod (.int .i64) .unit)) (res:=.bool) (multi:=false) (own:=false) (F:=f71) mixed all_nil Try.func36 rfl hints71 fun x _=>⟨fuel,e71 fuel x⟩
noncomputable def specs72:List Spec:=[]
def hints72:List (Nat×List Nat):=[]
noncomputable def F72 (N:Nat) (x:((Int×Unit)×Unit)):Out (Value×(Value×(Value×(Value×(Value×Unit))))) :=
  .ret (Value.nilFunc,((Value.func (.func 52) #[.agg #[.int .i64 x.1.1]] #[]),((Value.func (.func 53) #[.agg #[.int .i64 x.1.1]] #[]),((Value.func (.func 54) #[.agg #[.int .i64 x.1.1]] #[]),((Value.func (.func 55) #[.agg #[.int .i64 x.1.1]] #[]),())))))
theorem e72 (N:Nat) (x:((Int×Unit)×Unit)):vfn Try.prog (phi specs72) hints72 N Try.f37 false false (.prod (.prod (.int .i64) .unit) .unit) (.prod .raw (.prod .raw (.prod .raw (.prod .raw (.prod .raw .unit))))) x=F72 N x:=by
  kernel_rfl
noncomputable def f72 (x:((Int×Unit)×Unit)):Out (Value×(Value×(Value×(Value×(Value×Unit))))):=F72 fuel x
noncomputable def sp72:Spec:=⟨37,.call,(.prod (.prod (.int .i64) .unit) .unit),(.prod .raw (.prod .raw (.prod .raw (.prod .raw (.prod .raw .unit))))),false,false,f72⟩
theorem c72:Contract Try.prog sp72:=contract_at (l:=specs72) (arg:=(.prod (.prod (.int .i64) .unit) .unit)) (res:=(.prod .raw (.prod .raw (.prod .raw (.prod .raw (.prod .raw .unit)))))) (multi:=false) (own:=false) (F:=f72) mixed all_nil Try.func37 rfl hints72 fun x _=>⟨fuel,e72 fuel x⟩
noncomputable def specs86:List Spec:=[]
def hints86:List (Nat×List Nat):=[]
noncomputable def F86 (N:Nat) (x:(Int×(Int×(Int×Unit)))):Out Bool :=
  match (decide (x.1 >= x.2.1)) with
  | true =>
    .ret (decide (x.1<=x.2.2.1))
  | false =>
    .ret false
theorem e86 (N:Nat) (x:(Int×(Int×(Int×Unit)))):vfn Try.prog (phi specs86) hints86 N Try.f28 false false (.prod (.int .i64) (.prod (.int .i64) (.prod (.int .i64) .unit))) .bool x=F86 N x:=by
  kernel_rfl
noncomputable def f86 (x:(Int×(Int×(Int×Unit)))):Out Bool:=F86 fuel x
noncomputable def sp86:Spec:=⟨28,.call,(.prod (.int .i64) (.prod (.int .i64) (.prod (.int .i64) .unit))),.bool,false,false,f86⟩
theorem c86:Contract Try.prog sp86:=contract_at (l:=specs86) (arg:=(.prod (.int .i64) (.prod (.int .i64) (.prod (.int .i64) .unit)))) (res:=.bool) (multi:=false) (own:=false) (F:=f86) mixed all_nil Try.func28 rfl hints86 fun x _=>⟨fuel,e86 fuel x⟩
noncomputable def specs90:List Spec:=[sp86]
def hints90:List (Nat×List Nat):=[]
noncomputable def F90 (N:Nat) (x:(Int×Unit)):Out Bool :=
  match f86 (x.1,((0:Int),((2:Int),()))) with
  | .ret r_1 =>
    .ret (!r_1)
  | .pan p_2 =>
    .pan p_2
  | .fail=>.fail
theorem e90 (N:Nat) (x:(Int×Unit)):vfn Try.prog (phi specs90) hints90 N Try.f42 false false (.prod (.int .i64) .unit) .bool x=F90 N x:=by
  kernel_rfl
noncomputable def f90 (x:(Int×Unit)):Out Bool:=F90 fuel x
noncomputable def sp90:Spec:=⟨42,.call,(.prod (.int .i64) .unit),.bool,false,false,f90⟩
theorem c90:Contract Try.prog sp90:=contract_at (l:=specs90) (arg:=(.prod (.int .i64) .unit)) (res:=.bool) (multi:=false) (own:=false) (F:=f90) mixed (all_cons c86 all_nil) Try.func42 rfl hints90 fun x _=>⟨fuel,e90 fuel x⟩
noncomputable def specs97:List Spec:=[]
def hints97:List (Nat×List Nat):=[]
noncomputable def F97 (N:Nat) (x:((Int×Unit)×(Int×Unit))):Out Int :=
  bif (x.1.1 != (0:Int)) then
    match (decide ((IntKind.i64.wrap ((IntKind.i64.wrap (x.2.1.tdiv x.1.1)) * x.1.1)) > x.2.1)) with
    | true =>
      .ret (IntKind.i64.wrap ((IntKind.i64.wrap (x.2.1.tdiv x.1.1)) - (1:Int)))
    | false =>
      .ret (IntKind.i64.wrap (x.2.1.tdiv x.1.1))
  else .fail
theorem e97 (N:Nat) (x:((Int×Unit)×(Int×Unit))):vfn Try.prog (phi specs97) hints97 N Try.f52 false false (.prod (.prod (.int .i64) .unit) (.prod (.int .i64) .unit)) (.int .i64) x=F97 N x:=by
  kernel_rfl
noncomputable def f97 (x:((Int×Unit)×(Int×Unit))):Out Int:=F97 fuel x
noncomputable def sp97:Spec:=⟨52,.call,(.prod (.prod (.int .i64) .unit) (.prod (.int .i64) .unit)),(.int .i64),false,false,f97⟩
theorem c97:Contract Try.prog sp97:=contract_at (l:=specs97) (arg:=(.prod (.prod (.int .i64) .unit) (.prod (.int .i64) .unit))) (res:=(.int .i64)) (multi:=false) (own:=false) (F:=f97) mixed all_nil Try.func52 rfl hints97 fun x _=>⟨fuel,e97 fuel x⟩
noncomputable def specs98:List Spec:=[sp97]
def hints98:List (Nat×List Nat):=[]
noncomputable def F98 (N:Nat) (x:((Int×Unit)×(Int×Unit))):Out Int :=
  match f97 (x.1,((IntKind.i64.wrap (0 - x.2.1)),())) with
  | .ret r_1 =>
    .ret (IntKind.i64.wrap (0 - r_1))
  | .pan p_2 =>
    .pan p_2
  | .fail=>.fail
theorem e98 (N:Nat) (x:((Int×Unit)×(Int×Unit))):vfn Try.prog (phi specs98) hints98 N Try.f53 false false (.prod (.prod (.int .i64) .unit) (.prod (.int .i64) .unit)) (.int .i64) x=F98 N x:=by
  kernel_rfl
noncomputable def f98 (x:((Int×Unit)×(Int×Unit))):Out Int:=F98 fuel x
noncomputable def sp98:Spec:=⟨53,.call,(.prod (.prod (.int .i64) .unit) (.prod (.int .i64) .unit)),(.int .i64),false,false,f98⟩
theorem c98:Contract Try.prog sp98:=contract_at (l:=specs98) (arg:=(.prod (.prod (.int .i64) .unit) (.prod (.int .i64) .unit))) (res:=(.int .i64)) (multi:=false) (own:=false) (F:=f98) mixed (all_cons c97 all_nil) Try.func53 rfl hints98 fun x _=>⟨fuel,e98 fuel x⟩
noncomputable def specs99:List Spec:=[sp97]
def hints99:List (Nat×List Nat):=[]
noncomputable def F99 (N:Nat) (x:((Int×Unit)×(Int×Unit))):Out Int :=
  match f97 (((IntKind.i64.wrap ((2:Int) * x.1.1)),()),((IntKind.i64.wrap ((IntKind.i64.wrap ((2:Int) * x.2.1))+x.1.1)),())) with
  | .ret r_1 =>
    .ret r_1
  | .pan p_2 =>
    .pan p_2
  | .fail=>.fail
theorem e99 (N:Nat) (x:((Int×Unit)×(Int×Unit))):vfn Try.prog (phi specs99) hints99 N Try.f54 false false (.prod (.prod (.int .i64) .unit) (.prod (.int .i64) .unit)) (.int .i64) x=F99 N x:=by
  kernel_rfl
noncomputable def f99 (x:((Int×Unit)×(Int×Unit))):Out Int:=F99 fuel x
noncomputable def sp99:Spec:=⟨54,.call,(.prod (.prod (.int .i64) .unit) (.prod (.int .i64) .unit)),(.int .i64),false,false,f99⟩
theorem c99:Contract Try.prog sp99:=contract_at (l:=specs99) (arg:=(.prod (.prod (.int .i64) .unit) (.prod (.int .i64) .unit))) (res:=(.int .i64)) (multi:=false) (own:=false) (F:=f99) mixed (all_cons c97 all_nil) Try.func54 rfl hints99 fun x _=>⟨fuel,e99 fuel x⟩
noncomputable def specs100:List Spec:=[sp99]
def hints100:List (Nat×List Nat):=[]
noncomputable def F100 (N:Nat) (x:((Int×Unit)×(Int×Unit))):Out Int :=
  match f99 (x.1,(x.2.1,())) with
  | .ret r_1 =>
    match ((IntKind.i64.wrap ((IntKind.i64.wrap ((2:Int) * x.2.1))+x.1.1))==(IntKind.i64.wrap ((IntKind.i64.wrap ((2:Int) * x.1.1)) * r_1))) with
    | true =>
      match ((r_1.tmod (2:Int)) != (0:Int)) with
      | true =>
        .ret (IntKind.i64.wrap (r_1 - (1:Int)))
      | false =>
        .ret r_1
    | false =>
      .ret r_1
  | .pan p_2 =>
    .pan p_2
  | .fail=>.fail
theorem e100 (N:Nat) (x:((Int×Unit)×(Int×Unit))):vfn Try.prog (phi specs100) hints100 N Try.f55 false false (.prod (.prod (.int .i64) .unit) (.prod (.int .i64) .unit)) (.int .i64) x=F100 N x:=by
  kernel_rfl
noncomputable def f100 (x:((Int×Unit)×(Int×Unit))):Out Int:=F100 fuel x
noncomputable def sp100:Spec:=⟨55,.call,(.prod (.prod (.int .i64) .unit) (.prod (.int .i64) .unit)),(.int .i64),false,false,f100⟩
theorem c100:Contract Try.prog sp100:=contract_at (l:=specs100) (arg:=(.prod (.prod (.int .i64) .unit) (.prod (.int .i64) .unit))) (res:=(.int .i64)) (multi:=false) (own:=false) (F:=f100) mixed (all_cons c99 all_nil) Try.func55 rfl hints100 fun x _=>⟨fuel,e100 fuel x⟩
noncomputable def specs107:List Spec:=[]
def hints107:List (Nat×List Nat):=[(3,[1,5,9,10,11])]
noncomputable def L107_0 (N:Nat) (n_L107_0:Nat) (x:(((List (List Int))×((List Int)×Unit))×(Int×Unit))) (out_1:(List Int)) (t11_2:Int):Out (List Int) :=
  vloop Try.prog (phi specs107) hints107 N Try.f56 false true (.list (.int .i64)) [.at 1,.at 1,.at 0,.at 1,.at 0] n_L107_0 [.und,.d (.int .i64) x.2.1,.und,.und,.und,.own (.int .i64) out_1 false,.und,.und,.und,.d (.list (.list (.int .i64))) x.1.1,.d (.int .i64) (lenI x.1.1),.d (.int .i64) t11_2,.und,.und,.und,.und,.und,.und,.und,.und,.und,.und,.und,.und]
noncomputable def F107 (N:Nat) (x:(((List (List Int))×((List Int)×Unit))×(Int×Unit))):Out (List Int) :=
  L107_0 N N x ([]:List Int) (0:Int)
theorem e107 (N:Nat) (x:(((List (List Int))×((List Int)×Unit))×(Int×Unit))):vfn Try.prog (phi specs107) hints107 N Try.f56 false true (.prod (.prod (.list (.list (.int .i64))) (.prod (.list (.int .i64)) .unit)) (.prod (.int .i64) .unit)) (.list (.int .i64)) x=F107 N x:=by
  kernel_rfl
noncomputable def f107 (x:(((List (List Int))×((List Int)×Unit))×(Int×Unit))):Out (List Int):=F107 fuel x
noncomputable def sp107:Spec:=⟨56,.call,(.prod (.prod (.list (.list (.int .i64))) (.prod (.list (.int .i64)) .unit)) (.prod (.int .i64) .unit)),(.list (.int .i64)),false,true,f107⟩
theorem c107:Contract Try.prog sp107:=contract_at (l:=specs107) (arg:=(.prod (.prod (.list (.list (.int .i64))) (.prod (.list (.int .i64)) .unit)) (.prod (.int .i64) .unit))) (res:=(.list (.int .i64))) (multi:=false) (own:=true) (F:=f107) mixed all_nil Try.func56 rfl hints107 fun x _=>⟨fuel,e107 fuel x⟩
noncomputable def specs115:List Spec:=[]
def hints115:List (Nat×List Nat):=[]
noncomputable def F115 (N:Nat) (x:((List Int)×(Int×Unit))):Out (Int×(Int×(Bool×Unit))) :=
  match (x.2.1==(IntKind.i64.wrap ((lenI x.1) - (1:Int)))) with
  | true =>
    bif (inb x.2.1 x.1.length) then
      .ret ((List.getD x.1 x.2.1.toNat (0:Int)),((0:Int),(true,())))
    else .fail
  | false =>
    bif (inb x.2.1 x.1.length) then
      bif (inb (IntKind.i64.wrap (x.2.1+(1:Int))) x.1.length) then
        .ret ((List.getD x.1 x.2.1.toNat (0:Int)),((List.getD x.1 (IntKind.i64.wrap (x.2.1+(1:Int))).toNat (0:Int)),(false,())))
      else .fail
    else .fail
theorem e115 (N:Nat) (x:((List Int)×(Int×Unit))):vfn Try.prog (phi specs115) hints115 N Try.f33 false false (.prod (.list (.int .i64)) (.prod (.int .i64) .unit)) (.prod (.int .i64) (.prod (.int .i64) (.prod .bool .unit))) x=F115 N x:=by
  kernel_rfl
noncomputable def f115 (x:((List Int)×(Int×Unit))):Out (Int×(Int×(Bool×Unit))):=F115 fuel x
noncomputable def sp115:Spec:=⟨33,.call,(.prod (.list (.int .i64)) (.prod (.int .i64) .unit)),(.prod (.int .i64) (.prod (.int .i64) (.prod .bool .unit))),false,false,f115⟩
theorem c115:Contract Try.prog sp115:=contract_at (l:=specs115) (arg:=(.prod (.list (.int .i64)) (.prod (.int .i64) .unit))) (res:=(.prod (.int .i64) (.prod (.int .i64) (.prod .bool .unit)))) (multi:=false) (own:=false) (F:=f115) mixed all_nil Try.func33 rfl hints115 fun x _=>⟨fuel,e115 fuel x⟩
noncomputable def specs118:List Spec:=[sp86]
def hints118:List (Nat×List Nat):=[]
noncomputable def F118 (N:Nat) (x:(Int×Unit)):Out Bool :=
  match f86 (x.1,((-999:Int),((999:Int),()))) with
  | .ret r_1 =>
    .ret r_1
  | .pan p_2 =>
    .pan p_2
  | .fail=>.fail
theorem e118 (N:Nat) (x:(Int×Unit)):vfn Try.prog (phi specs118) hints118 N Try.f31 false false (.prod (.int .i64) .unit) .bool x=F118 N x:=by
  kernel_rfl
noncomputable def f118 (x:(Int×Unit)):Out Bool:=F118 fuel x
noncomputable def sp118:Spec:=⟨31,.call,(.prod (.int .i64) .unit),.bool,false,false,f118⟩
theorem c118:Contract Try.prog sp118:=contract_at (l:=specs118) (arg:=(.prod (.int .i64) .unit)) (res:=.bool) (multi:=false) (own:=false) (F:=f118) mixed (all_cons c86 all_nil) Try.func31 rfl hints118 fun x _=>⟨fuel,e118 fuel x⟩
noncomputable def specs120:List Spec:=[]
def hints120:List (Nat×List Nat):=[]
noncomputable def F120 (N:Nat) (x:(Int×Unit)):Out Bool :=
  .ret (x.1 != x.1)
theorem e120 (N:Nat) (x:(Int×Unit)):vfn Try.prog (phi specs120) hints120 N Try.f65 false false (.prod (.int .i64) .unit) .bool x=F120 N x:=by
  kernel_rfl
noncomputable def f120 (x:(Int×Unit)):Out Bool:=F120 fuel x
noncomputable def sp120:Spec:=⟨65,.call,(.prod (.int .i64) .unit),.bool,false,false,f120⟩
theorem c120:Contract Try.prog sp120:=contract_at (l:=specs120) (arg:=(.prod (.int .i64) .unit)) (res:=.bool) (multi:=false) (own:=false) (F:=f120) mixed all_nil Try.func65 rfl hints120 fun x _=>⟨fuel,e120 fuel x⟩
noncomputable def specs124:List Spec:=[]
def hints124:List (Nat×List Nat):=[]
noncomputable def F124 (N:Nat) (x:(Int×(Int×Unit))):Out Bool :=
  .ret (decide (x.1<x.2.1))
theorem e124 (N:Nat) (x:(Int×(Int×Unit))):vfn Try.prog (phi specs124) hints124 N Try.f69 false false (.prod (.int .i64) (.prod (.int .i64) .unit)) .bool x=F124 N x:=by
  kernel_rfl
noncomputable def f124 (x:(Int×(Int×Unit))):Out Bool:=F124 fuel x
noncomputable def sp124:Spec:=⟨69,.call,(.prod (.int .i64) (.prod (.int .i64) .unit)),.bool,false,false,f124⟩
theorem c124:Contract Try.prog sp124:=contract_at (l:=specs124) (arg:=(.prod (.int .i64) (.prod (.int .i64) .unit))) (res:=.bool) (multi:=false) (own:=false) (F:=f124) mixed all_nil Try.func69 rfl hints124 fun x _=>⟨fuel,e124 fuel x⟩
noncomputable def specs125:List Spec:=[]
def hints125:List (Nat×List Nat):=[]
noncomputable def F125 (N:Nat) (x:(Int×(Int×Unit))):Out Bool :=
  .ret (decide (x.1 > x.2.1))
theorem e125 (N:Nat) (x:(Int×(Int×Unit))):vfn Try.prog (phi specs125) hints125 N Try.f70 false false (.prod (.int .i64) (.prod (.int .i64) .unit)) .bool x=F125 N x:=by
  kernel_rfl
noncomputable def f125 (x:(Int×(Int×Unit))):Out Bool:=F125 fuel x
noncomputable def sp125:Spec:=⟨70,.call,(.prod (.int .i64) (.prod (.int .i64) .unit)),.bool,false,false,f125⟩
theorem c125:Contract Try.prog sp125:=contract_at (l:=specs125) (arg:=(.prod (.int .i64) (.prod (.int .i64) .unit))) (res:=.bool) (multi:=false) (own:=false) (F:=f125) mixed all_nil Try.func70 rfl hints125 fun x _=>⟨fuel,e125 fuel x⟩
noncomputable def specs130:List Spec:=[]
def hints130:List (Nat×List Nat):=[]
noncomputable def F130 (N:Nat) (x:((Int×(Int×(Bool×Unit)))×(Int×Unit))):Out Bool :=
  .ret (x.2.1==(IntKind.i64.wrap (0 - x.1.1)))
theorem e130 (N:Nat) (x:((Int×(Int×(Bool×Unit)))×(Int×Unit))):vfn Try.prog (phi specs130) hints130 N Try.f50 false false (.prod (.prod (.int .i64) (.prod (.int .i64) (.prod .bool .unit))) (.prod (.int .i64) .unit)) .bool x=F130 N x:=by
  kernel_rfl
noncomputable def f130 (x:((Int×(Int×(Bool×Unit)))×(Int×Unit))):Out Bool:=F130 fuel x
noncomputable def sp130:Spec:=⟨50,.call,(.prod (.prod (.int .i64) (.prod (.int .i64) (.prod .bool .unit))) (.prod (.int .i64) .unit)),.bool,false,false,f130⟩
theorem c130:Contract Try.prog sp130:=contract_at (l:=specs130) (arg:=(.prod (.prod (.int .i64) (.prod (.int .i64) (.prod .bool .unit))) (.prod (.int .i64) .unit))) (res:=.bool) (multi:=false) (own:=false) (F:=f130) mixed all_nil Try.func50 rfl hints130 fun x _=>⟨fuel,e130 fuel x⟩
noncomputable def specs131:List Spec:=[]
def hints131:List (Nat×List Nat):=[(2,[0,1,7,8])]
noncomputable def L131_0 (N:Nat) (n_L131_0:Nat) (x:((List Int)×(Int×Unit))) (t8_1:Int):Out Int :=
  vloop Try.prog (phi specs131) hints131 N Try.f73 false false (.int .i64) [.at 1,.at 0,.at 1,.at 0] n_L131_0 [.d (.list (.int .i64)) x.1,.d (.int .i64) x.2.1,.und,.und,.und,.und,.und,.d (.int .i64) (lenI x.1),.d (.int .i64) t8_1,.und,.und,.und,.und,.und,.und,.und,.und,.und,.und]
noncomputable def F131 (N:Nat) (x:((List Int)×(Int×Unit))):Out Int :=
  L131_0 N N x (0:Int)
theorem e131 (N:Nat) (x:((List Int)×(Int×Unit))):vfn Try.prog (phi specs131) hints131 N Try.f73 false false (.prod (.list (.int .i64)) (.prod (.int .i64) .unit)) (.int .i64) x=F131 N x:=by
  kernel_rfl
noncomputable def f131 (x:((List Int)×(Int×Unit))):Out Int:=F131 fuel x
noncomputable def sp131:Spec:=⟨73,.call,(.prod (.list (.int .i64)) (.prod (.int .i64) .unit)),(.int .i64),false,false,f131⟩
theorem c131:Contract Try.prog sp131:=contract_at (l:=specs131) (arg:=(.prod (.list (.int .i64)) (.prod (.int .i64) .unit))) (res:=(.int .i64)) (multi:=false) (own:=false) (F:=f131) mixed all_nil Try.func73 rfl hints131 fun x _=>⟨fuel,e131 fuel x⟩
noncomputable def specs134:List Spec:=[]
def hints134:List (Nat×List Nat):=[]
noncomputable def F134 (N:Nat) (x:((Int×(Int×(Bool×Unit)))×(Int×Unit))):Out Bool :=
  match (!x.1.2.2.1) with
  | true =>
    .ret (x.2.1==x.1.2.1)
  | false =>
    .ret false
theorem e134 (N:Nat) (x:((Int×(Int×(Bool×Unit)))×(Int×Unit))):vfn Try.prog (phi specs134) hints134 N Try.f51 false false (.prod (.prod (.int .i64) (.prod (.int .i64) (.prod .bool .unit))) (.prod (.int .i64) .unit)) .bool x=F134 N x:=by
  kernel_rfl
noncomputable def f134 (x:((Int×(Int×(Bool×Unit)))×(Int×Unit))):Out Bool:=F134 fuel x
noncomputable def sp134:Spec:=⟨51,.call,(.prod (.prod (.int .i64) (.prod (.int .i64) (.prod .bool .unit))) (.prod (.int .i64) .unit)),.bool,false,false,f134⟩
theorem c134:Contract Try.prog sp134:=contract_at (l:=specs134) (arg:=(.prod (.prod (.int .i64) (.prod (.int .i64) (.prod .bool .unit))) (.prod (.int .i64) .unit))) (res:=.bool) (multi:=false) (own:=false) (F:=f134) mixed all_nil Try.func51 rfl hints134 fun x _=>⟨fuel,e134 fuel x⟩
noncomputable def specs135:List Spec:=[sp70]
def hints135:List (Nat×List Nat):=[]
noncomputable def F135 (N:Nat) (x:(Int×Unit)):Out Bool :=
  match f70 (x.1,((-100000:Int),((100000:Int),()))) with
  | .ret r_1 =>
    .ret (!r_1)
  | .pan p_2 =>
    .pan p_2
  | .fail=>.fail
theorem e135 (N:Nat) (x:(Int×Unit)):vfn Try.prog (phi specs135) hints135 N Try.f76 false false (.prod (.int .i64) .unit) .bool x=F135 N x:=by
  kernel_rfl
noncomputable def f135 (x:(Int×Unit)):Out Bool:=F135 fuel x
noncomputable def sp135:Spec:=⟨76,.call,(.prod (.int .i64) .unit),.bool,false,false,f135⟩
theorem c135:Contract Try.prog sp135:=contract_at (l:=specs135) (arg:=(.prod (.int .i64) .unit)) (res:=.bool) (multi:=false) (own:=false) (F:=f135) mixed (all_cons c70 all_nil) Try.func76 rfl hints135 fun x _=>⟨fuel,e135 fuel x⟩
noncomputable def specs137:List Spec:=[]
def hints137:List (Nat×List Nat):=[]
noncomputable def F137 (N:Nat) (x:(((Int×(Int×((List Int)×((List Int)×Unit))))×(Int×Unit))×(Int×Unit))):Out (Int×(Int×Unit)) :=
  bif (inb x.1.2.1 x.1.1.2.2.1.length) then
    bif (inb x.2.1 x.1.1.2.2.2.1.length) then
      bif (inb x.2.1 x.1.1.2.2.2.1.length) then
        .ret ((IntKind.i64.wrap ((List.getD x.1.1.2.2.2.1 x.2.1.toNat (0:Int)) - (List.getD x.1.1.2.2.1 x.1.2.1.toNat (0:Int)))),((IntKind.i64.wrap ((List.getD x.1.1.2.2.2.1 x.2.1.toNat (0:Int))+(List.getD x.1.1.2.2.1 x.1.2.1.toNat (0:Int)))),()))
      else .fail
    else .fail
  else .fail
theorem e137 (N:Nat) (x:(((Int×(Int×((List Int)×((List Int)×Unit))))×(Int×Unit))×(Int×Unit))):vfn Try.prog (phi specs137) hints137 N Try.f78 false false (.prod (.prod (.prod (.int .i64) (.prod (.int .i64) (.prod (.list (.int .i64)) (.prod (.list (.int .i64)) .unit)))) (.prod (.int .i64) .unit)) (.prod (.int .i64) .unit)) (.prod (.int .i64) (.prod (.int .i64) .unit)) x=F137 N x:=by
  kernel_rfl
noncomputable def f137 (x:(((Int×(Int×((List Int)×((List Int)×Unit))))×(Int×Unit))×(Int×Unit))):Out (Int×(Int×Unit)):=F137 fuel x
noncomputable def sp137:Spec:=⟨78,.call,(.prod (.prod (.prod (.int .i64) (.prod (.int .i64) (.prod (.list (.int .i64)) (.prod (.list (.int .i64)) .unit)))) (.prod (.int .i64) .unit)) (.prod (.int .i64) .unit)),(.prod (.int .i64) (.prod (.int .i64) .unit)),false,false,f137⟩
theorem c137:Contract Try.prog sp137:=contract_at (l:=specs137) (arg:=(.prod (.prod (.prod (.int .i64) (.prod (.int .i64) (.prod (.list (.int .i64)) (.prod (.list (.int .i64)) .unit)))) (.prod (.int .i64) .unit)) (.prod (.int .i64) .unit))) (res:=(.prod (.int .i64) (.prod (.int .i64) .unit))) (multi:=false) (own:=false) (F:=f137) mixed all_nil Try.func78 rfl hints137 fun x _=>⟨fuel,e137 fuel x⟩
noncomputable def specs138:List Spec:=[]
def hints138:List (Nat×List Nat):=[]
noncomputable def F138 (N:Nat) (x:((Int×(Int×(Bool×Unit)))×Unit)):Out (Int×(Int×(Int×Unit))) :=
  .ret ((IntKind.i64.wrap ((if (IntKind.i64.wrap (0 - x.1.1)) > x.1.1 then (IntKind.i64.wrap (0 - x.1.1)) else x.1.1).tdiv (100:Int))),(((IntKind.i64.wrap ((if (IntKind.i64.wrap (0 - x.1.1)) > x.1.1 then (IntKind.i64.wrap (0 - x.1.1)) else x.1.1).tdiv (10:Int))).tmod (10:Int)),(((if (IntKind.i64.wrap (0 - x.1.1)) > x.1.1 then (IntKind.i64.wrap (0 - x.1.1)) else x.1.1).tmod (10:Int)),())))
theorem e138 (N:Nat) (x:((Int×(Int×(Bool×Unit)))×Unit)):vfn Try.prog (phi specs138) hints138 N Try.f71 true false (.prod (.prod (.int .i64) (.prod (.int .i64) (.prod .bool .unit))) .unit) (.prod (.int .i64) (.prod (.int .i64) (.prod (.int .i64) .unit))) x=F138 N x:=by
  kernel_rfl
noncomputable def f138 (x:((Int×(Int×(Bool×Unit)))×Unit)):Out (Int×(Int×(Int×Unit))):=F138 fuel x
noncomputable def sp138:Spec:=⟨71,.call,(.prod (.prod (.int .i64) (.prod (.int .i64) (.prod .bool .unit))) .unit),(.prod (.int .i64) (.prod (.int .i64) (.prod (.int .i64) .unit))),true,false,f138⟩
theorem c138:Contract Try.prog sp138:=contract_at (l:=specs138) (arg:=(.prod (.prod (.int .i64) (.prod (.int .i64) (.prod .bool .unit))) .unit)) (res:=(.prod (.int .i64) (.prod (.int .i64) (.prod (.int .i64) .unit)))) (multi:=true) (own:=false) (F:=f138) mixed all_nil Try.func71 rfl hints138 fun x _=>⟨fuel,e138 fuel x⟩
noncomputable def specs139:List Spec:=[]
def hints139:List (Nat×List Nat):=[]
noncomputable def F139 (N:Nat) (x:(Int×(Int×(Int×(Int×Unit))))):Out Int :=
  match (decide (x.1<(0:Int))) with
  | true =>
    .ret (IntKind.i64.wrap (0 - (IntKind.i64.wrap ((IntKind.i64.wrap ((IntKind.i64.wrap ((100:Int) * x.2.1))+(IntKind.i64.wrap ((10:Int) * x.2.2.1))))+x.2.2.2.1))))
  | false =>
    .ret (IntKind.i64.wrap ((IntKind.i64.wrap ((IntKind.i64.wrap ((100:Int) * x.2.1))+(IntKind.i64.wrap ((10:Int) * x.2.2.1))))+x.2.2.2.1))
theorem e139 (N:Nat) (x:(Int×(Int×(Int×(Int×Unit))))):vfn Try.prog (phi specs139) hints139 N Try.f72 false false (.prod (.int .i64) (.prod (.int .i64) (.prod (.int .i64) (.prod (.int .i64) .unit)))) (.int .i64) x=F139 N x:=by
  kernel_rfl
noncomputable def f139 (x:(Int×(Int×(Int×(Int×Unit))))):Out Int:=F139 fuel x
noncomputable def sp139:Spec:=⟨72,.call,(.prod (.int .i64) (.prod (.int .i64) (.prod (.int .i64) (.prod (.int .i64) .unit)))),(.int .i64),false,false,f139⟩
theorem c139:Contract Try.prog sp139:=contract_at (l:=specs139) (arg:=(.prod (.int .i64) (.prod (.int .i64) (.prod (.int .i64) (.prod (.int .i64) .unit))))) (res:=(.int .i64)) (multi:=false) (own:=false) (F:=f139) mixed all_nil Try.func72 rfl hints139 fun x _=>⟨fuel,e139 fuel x⟩
noncomputable def specs39:List Spec:=[sp70,sp71,sp72,sp97,sp98,sp99,sp100]
def hints39:List (Nat×List Nat):=[]
noncomputable def F39 (N:Nat) (x:(Int×(Int×(Int×Unit)))):Out (Int×(Int×Unit)) :=
  match f70 (x.1,((-1099511627776:Int),((1099511627776:Int),()))) with
  | .ret r_1 =>
    match (!r_1) with
    | true =>
      .ret ((0:Int),((2:Int),()))
    | false =>
      match f70 (x.2.1,((1:Int),((1048576:Int),()))) with
      | .ret r_3 =>
        match (!r_3) with
        | true =>
          .ret ((0:Int),((2:Int),()))
        | false =>
          match f71 (x.2.2.1,()) with
          | .ret r_5 =>
            match (!r_5) with
            | true =>
              .ret ((0:Int),((2:Int),()))
            | false =>
              bif x.2.2.1==(0:Int) then
                .fail
              else
              bif x.2.2.1==(1:Int) then
                match f97 ((x.2.1,()),(x.1,())) with
                | .ret r_7 =>
                  .ret (r_7,((0:Int),()))
                | .pan p_8 =>
                  .pan p_8
                | .fail=>.fail
              else
              bif x.2.2.1==(2:Int) then
                match f98 ((x.2.1,()),(x.1,())) with
                | .ret r_9 =>
                  .ret (r_9,((0:Int),()))
                | .pan p_10 =>
                  .pan p_10
                | .fail=>.fail
              else
              bif x.2.2.1==(3:Int) then
                match f99 ((x.2.1,()),(x.1,())) with
                | .ret r_11 =>
                  .ret (r_11,((0:Int),()))
                | .pan p_12 =>
                  .pan p_12
                | .fail=>.fail
              else
              bif x.2.2.1==(4:Int) then
                match f100 ((x.2.1,()),(x.1,())) with
                | .ret r_13 =>
                  .ret (r_13,((0:Int),()))
                | .pan p_14 =>
                  .pan p_14
                | .fail=>.fail
              else
              .fail
          | .pan p_6 =>
            .pan p_6
          | .fail=>.fail
      | .pan p_4 =>
        .pan p_4
      | .fail=>.fail
  | .pan p_2 =>
    .pan p_2
  | .fail=>.fail
theorem e39 (N:Nat) (x:(Int×(Int×(Int×Unit)))):vfn Try.prog (phi specs39) hints39 N Try.f19 true false (.prod (.int .i64) (.prod (.int .i64) (.prod (.int .i64) .unit))) (.prod (.int .i64) (.prod (.int .i64) .unit)) x=F39 N x:=by
  kernel_rfl
noncomputable def f39 (x:(Int×(Int×(Int×Unit)))):Out (Int×(Int×Unit)):=F39 fuel x
noncomputable def sp39:Spec:=⟨19,.call,(.prod (.int .i64) (.prod (.int .i64) (.prod (.int .i64) .unit))),(.prod (.int .i64) (.prod (.int .i64) .unit)),true,false,f39⟩
theorem c39:Contract Try.prog sp39:=contract_at (l:=specs39) (arg:=(.prod (.int .i64) (.prod (.int .i64) (.prod (.int .i64) .unit)))) (res:=(.prod (.int .i64) (.prod (.int .i64) .unit))) (multi:=true) (own:=false) (F:=f39) mixed (all_cons c70 (all_cons c71 (all_cons c72 (all_cons c97 (all_cons c98 (all_cons c99 (all_cons c100 all_nil))))))) Try.func19 rfl hints39 fun x _=>⟨fuel,e39 fuel x⟩
noncomputable def specs63:List Spec:=[sp72,sp97,sp98,sp99,sp100]
def hints63:List (Nat×List Nat):=[]
noncomputable def F63 (N:Nat) (x:(((Int×(Int×((List Int)×((List Int)×Unit))))×(Int×Unit))×(Int×Unit))):Out Int :=
  bif x.1.1.2.1==(0:Int) then
    .fail
  else
  bif x.1.1.2.1==(1:Int) then
    match f97 ((x.1.1.1,()),(x.2.1,())) with
    | .ret r_1 =>
      .ret r_1
    | .pan p_2 =>
      .pan p_2
    | .fail=>.fail
  else
  bif x.1.1.2.1==(2:Int) then
    match f98 ((x.1.1.1,()),(x.2.1,())) with
    | .ret r_3 =>
      .ret r_3
    | .pan p_4 =>
      .pan p_4
    | .fail=>.fail
  else
  bif x.1.1.2.1==(3:Int) then
    match f99 ((x.1.1.1,()),(x.2.1,())) with
    | .ret r_5 =>
      .ret r_5
    | .pan p_6 =>
      .pan p_6
    | .fail=>.fail
  else
  bif x.1.1.2.1==(4:Int) then
    match f100 ((x.1.1.1,()),(x.2.1,())) with
    | .ret r_7 =>
      .ret r_7
    | .pan p_8 =>
      .pan p_8
    | .fail=>.fail
  else
  .fail
theorem e63 (N:Nat) (x:(((Int×(Int×((List Int)×((List Int)×Unit))))×(Int×Unit))×(Int×Unit))):vfn Try.prog (phi specs63) hints63 N Try.f27 false false (.prod (.prod (.prod (.int .i64) (.prod (.int .i64) (.prod (.list (.int .i64)) (.prod (.list (.int .i64)) .unit)))) (.prod (.int .i64) .unit)) (.prod (.int .i64) .unit)) (.int .i64) x=F63 N x:=by
  kernel_rfl
noncomputable def f63 (x:(((Int×(Int×((List Int)×((List Int)×Unit))))×(Int×Unit))×(Int×Unit))):Out Int:=F63 fuel x
noncomputable def sp63:Spec:=⟨27,.call,(.prod (.prod (.prod (.int .i64) (.prod (.int .i64) (.prod (.list (.int .i64)) (.prod (.list (.int .i64)) .unit)))) (.prod (.int .i64) .unit)) (.prod (.int .i64) .unit)),(.int .i64),false,false,f63⟩
theorem c63:Contract Try.prog sp63:=contract_at (l:=specs63) (arg:=(.prod (.prod (.prod (.int .i64) (.prod (.int .i64) (.prod (.list (.int .i64)) (.prod (.list (.int .i64)) .unit)))) (.prod (.int .i64) .unit)) (.prod (.int .i64) .unit))) (res:=(.int .i64)) (multi:=false) (own:=false) (F:=f63) mixed (all_cons c72 (all_cons c97 (all_cons c98 (all_cons c99 (all_cons c100 all_nil))))) Try.func27 rfl hints63 fun x _=>⟨fuel,e63 fuel x⟩
noncomputable def specs91:List Spec:=[sp120]
def hints91:List (Nat×List Nat):=[]
noncomputable def F91 (N:Nat) (x:(Int×(Int×Unit))):Out Int :=
  match (x.1 != x.1) with
  | true =>
    match (x.2.1 != x.2.1) with
    | true =>
      .ret (0:Int)
    | false =>
      .ret (-1:Int)
  | false =>
    match (x.2.1 != x.2.1) with
    | true =>
      .ret (1:Int)
    | false =>
      match (decide (x.1<x.2.1)) with
      | true =>
        .ret (-1:Int)
      | false =>
        match (decide (x.1 > x.2.1)) with
        | true =>
          .ret (1:Int)
        | false =>
          .ret (0:Int)
theorem e91 (N:Nat) (x:(Int×(Int×Unit))):vfn Try.prog (phi specs91) hints91 N Try.f43 false false (.prod (.int .i64) (.prod (.int .i64) .unit)) (.int .i64) x=F91 N x:=by
  kernel_rfl
noncomputable def f91 (x:(Int×(Int×Unit))):Out Int:=F91 fuel x
noncomputable def sp91:Spec:=⟨43,.call,(.prod (.int .i64) (.prod (.int .i64) .unit)),(.int .i64),false,false,f91⟩
theorem c91:Contract Try.prog sp91:=contract_at (l:=specs91) (arg:=(.prod (.int .i64) (.prod (.int .i64) .unit))) (res:=(.int .i64)) (multi:=false) (own:=false) (F:=f91) mixed (all_cons c120 all_nil) Try.func43 rfl hints91 fun x _=>⟨fuel,e91 fuel x⟩
noncomputable def specs109:List Spec:=[sp131]
def hints109:List (Nat×List Nat):=[]
noncomputable def F109 (N:Nat) (x:((List Int)×(Int×Unit))):Out Bool :=
  match f131 (x.1,(x.2.1,())) with
  | .ret r_1 =>
    .ret (decide (r_1 >= (0:Int)))
  | .pan p_2 =>
    .pan p_2
  | .fail=>.fail
theorem e109 (N:Nat) (x:((List Int)×(Int×Unit))):vfn Try.prog (phi specs109) hints109 N Try.f58 false false (.prod (.list (.int .i64)) (.prod (.int .i64) .unit)) .bool x=F109 N x:=by
  kernel_rfl
noncomputable def f109 (x:((List Int)×(Int×Unit))):Out Bool:=F109 fuel x
noncomputable def sp109:Spec:=⟨58,.call,(.prod (.list (.int .i64)) (.prod (.int .i64) .unit)),.bool,false,false,f109⟩
theorem c109:Contract Try.prog sp109:=contract_at (l:=specs109) (arg:=(.prod (.list (.int .i64)) (.prod (.int .i64) .unit))) (res:=.bool) (multi:=false) (own:=false) (F:=f109) mixed (all_cons c131 all_nil) Try.func58 rfl hints109 fun x _=>⟨fuel,e109 fuel x⟩
noncomputable def specs117:List Spec:=[sp118]
def hints117:List (Nat×List Nat):=[]
noncomputable def F117 (N:Nat) (x:(Int×Unit)):Out Bool :=
  match f118 (x.1,()) with
  | .ret r_1 =>
    .ret (!r_1)
  | .pan p_2 =>
    .pan p_2
  | .fail=>.fail
theorem e117 (N:Nat) (x:(Int×Unit)):vfn Try.prog (phi specs117) hints117 N Try.f30 false false (.prod (.int .i64) .unit) .bool x=F117 N x:=by
  kernel_rfl
noncomputable def f117 (x:(Int×Unit)):Out Bool:=F117 fuel x
noncomputable def sp117:Spec:=⟨30,.call,(.prod (.int .i64) .unit),.bool,false,false,f117⟩
theorem c117:Contract Try.prog sp117:=contract_at (l:=specs117) (arg:=(.prod (.int .i64) .unit)) (res:=.bool) (multi:=false) (own:=false) (F:=f117) mixed (all_cons c118 all_nil) Try.func30 rfl hints117 fun x _=>⟨fuel,e117 fuel x⟩
noncomputable def specs123a:List Spec:=[sp124,sp125]
def hints123a:List (Nat×List Nat):=[(3,[1,5,12,13,14])]
noncomputable def L123a_0 (N:Nat) (n_L123a_0:Nat) (x:((List Int)×(Value×Unit))) (out_1:Int) (t14_2:Int):Out Int :=
  vloop Try.prog (phi specs123a) hints123a N Try.f68 false false (.int .i64) [.at 1,.at 1,.at 0,.at 1,.at 0] n_L123a_0 [.und,.d .raw (Value.func (.func 69) #[] #[]),.und,.und,.und,.d (.int .i64) out_1,.und,.und,.und,.und,.und,.und,.d (.list (.int .i64)) (cut x.1 (1:Int) (lenI x.1)),.d (.int .i64) (lenI (cut x.1 (1:Int) (lenI x.1))),.d (.int .i64) t14_2,.und,.und,.und,.und,.und,.und,.und,.und,.und,.und]
theorem L123a_0_succ (N:Nat) (n_L123a_0:Nat) (x:((List Int)×(Value×Unit))) (out_1:Int) (t14_2:Int):L123a_0 N  (n_L123a_0+1) x out_1 t14_2 =
    (
    match (decide (t14_2<(lenI (cut x.1 (1:Int) (lenI x.1))))) with
    | true =>
      bif (inb t14_2 (cut x.1 (1:Int) (lenI x.1)).length) then
        match (decide ((List.getD (cut x.1 (1:Int) (lenI x.1)) t14_2.toNat (0:Int))<out_1)) with
        | true =>
          L123a_0 N n_L123a_0 x (List.getD (cut x.1 (1:Int) (lenI x.1)) t14_2.toNat (0:Int)) (IntKind.i64.wrap (t14_2+(1:Int)))
        | false =>
          L123a_0 N n_L123a_0 x out_1 (IntKind.i64.wrap (t14_2+(1:Int)))
      else .fail
    | false =>
      .ret out_1:Out Int):=by
  kernel_rfl
noncomputable def F123a (N:Nat) (x:((List Int)×(Value×Unit))):Out Int :=
  bif (inb (0:Int) x.1.length) then
    bif (cutOk (1:Int) (lenI x.1) (lenI x.1)) then
      L123a_0 N N x (List.getD x.1 (0:Int).toNat (0:Int)) (0:Int)
    else .fail
  else .fail
theorem e123a (N:Nat) (x:((List Int)×(Value×Unit))):vfn Try.prog (phi specs123a) hints123a N Try.f68 false false (.prod (.list (.int .i64)) (.prod .raw .unit)) (.int .i64) (x.1,(Value.func (.func 69) #[] #[]),())=F123a N x:=by
  kernel_rfl
@[irreducible] noncomputable def f123a (x:((List Int)×(Value×Unit))):Out Int:=vfn Try.prog (phi specs123a) hints123a fuel Try.f68 false false (.prod (.list (.int .i64)) (.prod .raw .unit)) (.int .i64) x
noncomputable def sp123a:Spec:=⟨68,.call,(.prod (.list (.int .i64)) (.prod .raw .unit)),(.int .i64),false,false,f123a⟩
theorem q123a (x:((List Int)×(Value×Unit))):vfn Try.prog (phi specs123a) hints123a fuel Try.f68 false false (.prod (.list (.int .i64)) (.prod .raw .unit)) (.int .i64) x=f123a x:=by kernel_rfl
theorem c123a:Contract Try.prog sp123a:=contract_at (l:=specs123a) (arg:=(.prod (.list (.int .i64)) (.prod .raw .unit))) (res:=(.int .i64)) (multi:=false) (own:=false) (F:=f123a) mixed (all_cons c124 (all_cons c125 all_nil)) Try.func68 rfl hints123a fun x _=>⟨fuel,q123a x⟩
noncomputable def L123b_0 (N:Nat) (n_L123b_0:Nat) (x:((List Int)×(Value×Unit))) (out_1:Int) (t14_2:Int):Out Int :=
  vloop Try.prog (phi specs123a) hints123a N Try.f68 false false (.int .i64) [.at 1,.at 1,.at 0,.at 1,.at 0] n_L123b_0 [.und,.d .raw (Value.func (.func 70) #[] #[]),.und,.und,.und,.d (.int .i64) out_1,.und,.und,.und,.und,.und,.und,.d (.list (.int .i64)) (cut x.1 (1:Int) (lenI x.1)),.d (.int .i64) (lenI (cut x.1 (1:Int) (lenI x.1))),.d (.int .i64) t14_2,.und,.und,.und,.und,.und,.und,.und,.und,.und,.und]
theorem L123b_0_succ (N:Nat) (n_L123b_0:Nat) (x:((List Int)×(Value×Unit))) (out_1:Int) (t14_2:Int):L123b_0 N  (n_L123b_0+1) x out_1 t14_2 =
    (
    match (decide (t14_2<(lenI (cut x.1 (1:Int) (lenI x.1))))) with
    | true =>
      bif (inb t14_2 (cut x.1 (1:Int) (lenI x.1)).length) then
        match (decide ((List.getD (cut x.1 (1:Int) (lenI x.1)) t14_2.toNat (0:Int)) > out_1)) with
        | true =>
          L123b_0 N n_L123b_0 x (List.getD (cut x.1 (1:Int) (lenI x.1)) t14_2.toNat (0:Int)) (IntKind.i64.wrap (t14_2+(1:Int)))
        | false =>
          L123b_0 N n_L123b_0 x out_1 (IntKind.i64.wrap (t14_2+(1:Int)))
      else .fail
    | false =>
      .ret out_1:Out Int):=by
  kernel_rfl
noncomputable def F123b (N:Nat) (x:((List Int)×(Value×Unit))):Out Int :=
  bif (inb (0:Int) x.1.length) then
    bif (cutOk (1:Int) (lenI x.1) (lenI x.1)) then
      L123b_0 N N x (List.getD x.1 (0:Int).toNat (0:Int)) (0:Int)
    else .fail
  else .fail
theorem e123b (N:Nat) (x:((List Int)×(Value×Unit))):vfn Try.prog (phi specs123a) hints123a N Try.f68 false false (.prod (.list (.int .i64)) (.prod .raw .unit)) (.int .i64) (x.1,(Value.func (.func 70) #[] #[]),())=F123b N x:=by
  kernel_rfl
noncomputable def specs128:List Spec:=[sp138,sp139]
def hints128:List (Nat×List Nat):=[]
noncomputable def F128 (N:Nat) (x:((Int×(Int×(Bool×Unit)))×(Int×Unit))):Out Bool :=
  match f139 (x.1.1,(((IntKind.i64.wrap ((if (IntKind.i64.wrap (0 - x.1.1)) > x.1.1 then (IntKind.i64.wrap (0 - x.1.1)) else x.1.1).tdiv (10:Int))).tmod (10:Int)),((IntKind.i64.wrap ((if (IntKind.i64.wrap (0 - x.1.1)) > x.1.1 then (IntKind.i64.wrap (0 - x.1.1)) else x.1.1).tdiv (100:Int))),(((if (IntKind.i64.wrap (0 - x.1.1)) > x.1.1 then (IntKind.i64.wrap (0 - x.1.1)) else x.1.1).tmod (10:Int)),())))) with
  | .ret r_1 =>
    match (x.2.1==r_1) with
    | true =>
      .ret true
    | false =>
      match f139 (x.1.1,((IntKind.i64.wrap ((if (IntKind.i64.wrap (0 - x.1.1)) > x.1.1 then (IntKind.i64.wrap (0 - x.1.1)) else x.1.1).tdiv (100:Int))),(((if (IntKind.i64.wrap (0 - x.1.1)) > x.1.1 then (IntKind.i64.wrap (0 - x.1.1)) else x.1.1).tmod (10:Int)),(((IntKind.i64.wrap ((if (IntKind.i64.wrap (0 - x.1.1)) > x.1.1 then (IntKind.i64.wrap (0 - x.1.1)) else x.1.1).tdiv (10:Int))).tmod (10:Int)),())))) with
      | .ret r_3 =>
        .ret (x.2.1==r_3)
      | .pan p_4 =>
        .pan p_4
      | .fail=>.fail
  | .pan p_2 =>
    .pan p_2
  | .fail=>.fail
theorem e128 (N:Nat) (x:((Int×(Int×(Bool×Unit)))×(Int×Unit))):vfn Try.prog (phi specs128) hints128 N Try.f48 false false (.prod (.prod (.int .i64) (.prod (.int .i64) (.prod .bool .unit))) (.prod (.int .i64) .unit)) .bool x=F128 N x:=by
  kernel_rfl
noncomputable def f128 (x:((Int×(Int×(Bool×Unit)))×(Int×Unit))):Out Bool:=F128 fuel x
noncomputable def sp128:Spec:=⟨48,.call,(.prod (.prod (.int .i64) (.prod (.int .i64) (.prod .bool .unit))) (.prod (.int .i64) .unit)),.bool,false,false,f128⟩
theorem c128:Contract Try.prog sp128:=contract_at (l:=specs128) (arg:=(.prod (.prod (.int .i64) (.prod (.int .i64) (.prod .bool .unit))) (.prod (.int .i64) .unit))) (res:=.bool) (multi:=false) (own:=false) (F:=f128) mixed (all_cons c138 (all_cons c139 all_nil)) Try.func48 rfl hints128 fun x _=>⟨fuel,e128 fuel x⟩
noncomputable def specs129:List Spec:=[sp138,sp139]
def hints129:List (Nat×List Nat):=[]
noncomputable def F129 (N:Nat) (x:((Int×(Int×(Bool×Unit)))×(Int×Unit))):Out Bool :=
  match (decide ((IntKind.i64.wrap ((if (IntKind.i64.wrap (0 - x.1.1)) > x.1.1 then (IntKind.i64.wrap (0 - x.1.1)) else x.1.1).tdiv (100:Int))) > (0:Int))) with
  | true =>
    match f139 (x.1.1,((IntKind.i64.wrap ((IntKind.i64.wrap ((if (IntKind.i64.wrap (0 - x.1.1)) > x.1.1 then (IntKind.i64.wrap (0 - x.1.1)) else x.1.1).tdiv (100:Int))) - (1:Int))),(((IntKind.i64.wrap ((if (IntKind.i64.wrap (0 - x.1.1)) > x.1.1 then (IntKind.i64.wrap (0 - x.1.1)) else x.1.1).tdiv (10:Int))).tmod (10:Int)),(((if (IntKind.i64.wrap (0 - x.1.1)) > x.1.1 then (IntKind.i64.wrap (0 - x.1.1)) else x.1.1).tmod (10:Int)),())))) with
    | .ret r_1 =>
      match (x.2.1==r_1) with
      | true =>
        .ret true
      | false =>
        match (decide (((IntKind.i64.wrap ((if (IntKind.i64.wrap (0 - x.1.1)) > x.1.1 then (IntKind.i64.wrap (0 - x.1.1)) else x.1.1).tdiv (10:Int))).tmod (10:Int)) > (0:Int))) with
        | true =>
          match f139 (x.1.1,((IntKind.i64.wrap ((if (IntKind.i64.wrap (0 - x.1.1)) > x.1.1 then (IntKind.i64.wrap (0 - x.1.1)) else x.1.1).tdiv (100:Int))),((IntKind.i64.wrap (((IntKind.i64.wrap ((if (IntKind.i64.wrap (0 - x.1.1)) > x.1.1 then (IntKind.i64.wrap (0 - x.1.1)) else x.1.1).tdiv (10:Int))).tmod (10:Int)) - (1:Int))),(((if (IntKind.i64.wrap (0 - x.1.1)) > x.1.1 then (IntKind.i64.wrap (0 - x.1.1)) else x.1.1).tmod (10:Int)),())))) with
          | .ret r_3 =>
            .ret (x.2.1==r_3)
          | .pan p_4 =>
            .pan p_4
          | .fail=>.fail
        | false =>
          .ret false
    | .pan p_2 =>
      .pan p_2
    | .fail=>.fail
  | false =>
    match (decide (((IntKind.i64.wrap ((if (IntKind.i64.wrap (0 - x.1.1)) > x.1.1 then (IntKind.i64.wrap (0 - x.1.1)) else x.1.1).tdiv (10:Int))).tmod (10:Int)) > (0:Int))) with
    | true =>
      match f139 (x.1.1,((IntKind.i64.wrap ((if (IntKind.i64.wrap (0 - x.1.1)) > x.1.1 then (IntKind.i64.wrap (0 - x.1.1)) else x.1.1).tdiv (100:Int))),((IntKind.i64.wrap (((IntKind.i64.wrap ((if (IntKind.i64.wrap (0 - x.1.1)) > x.1.1 then (IntKind.i64.wrap (0 - x.1.1)) else x.1.1).tdiv (10:Int))).tmod (10:Int)) - (1:Int))),(((if (IntKind.i64.wrap (0 - x.1.1)) > x.1.1 then (IntKind.i64.wrap (0 - x.1.1)) else x.1.1).tmod (10:Int)),())))) with
      | .ret r_5 =>
        .ret (x.2.1==r_5)
      | .pan p_6 =>
        .pan p_6
      | .fail=>.fail
    | false =>
      .ret false
theorem e129 (N:Nat) (x:((Int×(Int×(Bool×Unit)))×(Int×Unit))):vfn Try.prog (phi specs129) hints129 N Try.f49 false false (.prod (.prod (.int .i64) (.prod (.int .i64) (.prod .bool .unit))) (.prod (.int .i64) .unit)) .bool x=F129 N x:=by
  kernel_rfl
noncomputable def f129 (x:((Int×(Int×(Bool×Unit)))×(Int×Unit))):Out Bool:=F129 fuel x
noncomputable def sp129:Spec:=⟨49,.call,(.prod (.prod (.int .i64) (.prod (.int .i64) (.prod .bool .unit))) (.prod (.int .i64) .unit)),.bool,false,false,f129⟩
theorem c129:Contract Try.prog sp129:=contract_at (l:=specs129) (arg:=(.prod (.prod (.int .i64) (.prod (.int .i64) (.prod .bool .unit))) (.prod (.int .i64) .unit))) (res:=.bool) (multi:=false) (own:=false) (F:=f129) mixed (all_cons c138 (all_cons c139 all_nil)) Try.func49 rfl hints129 fun x _=>⟨fuel,e129 fuel x⟩
noncomputable def specs12:List Spec:=[sp39]
def hints12:List (Nat×List Nat):=[]
noncomputable def F12 (N:Nat) (x:(Int×(Int×(Int×Unit)))):Out (Int×(Bool×Unit)) :=
  match f39 (x.1,(x.2.1,(x.2.2.1,()))) with
  | .ret r_1 =>
    match (r_1.2.1==(0:Int)) with
    | true =>
      match (decide (r_1.1 >= (-1099511627776:Int))) with
      | true =>
        .ret (r_1.1,((decide (r_1.1<=(1099511627776:Int))),()))
      | false =>
        .ret (r_1.1,(false,()))
    | false =>
      .ret (r_1.1,(false,()))
  | .pan p_2 =>
    .pan p_2
  | .fail=>.fail
theorem e12 (N:Nat) (x:(Int×(Int×(Int×Unit)))):vfn Try.prog (phi specs12) hints12 N Try.f7 true false (.prod (.int .i64) (.prod (.int .i64) (.prod (.int .i64) .unit))) (.prod (.int .i64) (.prod .bool .unit)) x=F12 N x:=by
  kernel_rfl
noncomputable def f12 (x:(Int×(Int×(Int×Unit)))):Out (Int×(Bool×Unit)):=F12 fuel x
noncomputable def sp12:Spec:=⟨7,.call,(.prod (.int .i64) (.prod (.int .i64) (.prod (.int .i64) .unit))),(.prod (.int .i64) (.prod .bool .unit)),true,false,f12⟩
theorem c12:Contract Try.prog sp12:=contract_at (l:=specs12) (arg:=(.prod (.int .i64) (.prod (.int .i64) (.prod (.int .i64) .unit)))) (res:=(.prod (.int .i64) (.prod .bool .unit))) (multi:=true) (own:=false) (F:=f12) mixed (all_cons c39 all_nil) Try.func7 rfl hints12 fun x _=>⟨fuel,e12 fuel x⟩
noncomputable def specs60:List Spec:=[sp91]
def hints60:List (Nat×List Nat):=[(2,[0,1,9,10,11])]
noncomputable def L60_0 (N:Nat) (n_L60_0:Nat) (x:((List Int)×((List Int)×Unit))) (t11_1:Int):Out Int :=
  vloop Try.prog (phi specs60) hints60 N Try.f24 false false (.int .i64) [.at 1,.at 0,.at 1,.at 0] n_L60_0 [.d (.list (.int .i64)) x.1,.d (.list (.int .i64)) x.2.1,.und,.und,.und,.und,.und,.und,.und,.d (.list (.int .i64)) x.1,.d (.int .i64) (lenI x.1),.d (.int .i64) t11_1,.und,.und,.und,.und,.und,.und,.und,.und,.und,.und,.und,.und,.und,.und,.und,.und,.und,.und,.und,.und,.und,.und,.und,.und]
noncomputable def F60 (N:Nat) (x:((List Int)×((List Int)×Unit))):Out Int :=
  L60_0 N N x (0:Int)
theorem e60 (N:Nat) (x:((List Int)×((List Int)×Unit))):vfn Try.prog (phi specs60) hints60 N Try.f24 false false (.prod (.list (.int .i64)) (.prod (.list (.int .i64)) .unit)) (.int .i64) x=F60 N x:=by
  kernel_rfl
noncomputable def f60 (x:((List Int)×((List Int)×Unit))):Out Int:=F60 fuel x
noncomputable def sp60:Spec:=⟨24,.call,(.prod (.list (.int .i64)) (.prod (.list (.int .i64)) .unit)),(.int .i64),false,false,f60⟩
theorem c60:Contract Try.prog sp60:=contract_at (l:=specs60) (arg:=(.prod (.list (.int .i64)) (.prod (.list (.int .i64)) .unit))) (res:=(.int .i64)) (multi:=false) (own:=false) (F:=f60) mixed (all_cons c91 all_nil) Try.func24 rfl hints60 fun x _=>⟨fuel,e60 fuel x⟩
noncomputable def specs62:List Spec:=[sp63]
def hints62:List (Nat×List Nat):=[]
noncomputable def F62 (N:Nat) (x:(((Int×(Int×((List Int)×((List Int)×Unit))))×(Int×Unit))×(Int×((Int×(Int×Unit))×Unit)))):Out (Int×(Int×Unit)) :=
  match f63 (x.1,(x.2.1,())) with
  | .ret r_1 =>
    match f63 (x.1,(x.2.1,())) with
    | .ret r_3 =>
      .ret ((IntKind.i64.wrap (x.2.2.1.1 - r_1)),((IntKind.i64.wrap (x.2.2.1.2.1 - r_3)),()))
    | .pan p_4 =>
      .pan p_4
    | .fail=>.fail
  | .pan p_2 =>
    .pan p_2
  | .fail=>.fail
theorem e62 (N:Nat) (x:(((Int×(Int×((List Int)×((List Int)×Unit))))×(Int×Unit))×(Int×((Int×(Int×Unit))×Unit)))):vfn Try.prog (phi specs62) hints62 N Try.f26 true false (.prod (.prod (.prod (.int .i64) (.prod (.int .i64) (.prod (.list (.int .i64)) (.prod (.list (.int .i64)) .unit)))) (.prod (.int .i64) .unit)) (.prod (.int .i64) (.prod (.prod (.int .i64) (.prod (.int .i64) .unit)) .unit))) (.prod (.int .i64) (.prod (.int .i64) .unit)) x=F62 N x:=by
  kernel_rfl
noncomputable def f62 (x:(((Int×(Int×((List Int)×((List Int)×Unit))))×(Int×Unit))×(Int×((Int×(Int×Unit))×Unit)))):Out (Int×(Int×Unit)):=F62 fuel x
noncomputable def sp62:Spec:=⟨26,.call,(.prod (.prod (.prod (.int .i64) (.prod (.int .i64) (.prod (.list (.int .i64)) (.prod (.list (.int .i64)) .unit)))) (.prod (.int .i64) .unit)) (.prod (.int .i64) (.prod (.prod (.int .i64) (.prod (.int .i64) .unit)) .unit))),(.prod (.int .i64) (.prod (.int .i64) .unit)),true,false,f62⟩
theorem c62:Contract Try.prog sp62:=contract_at (l:=specs62) (arg:=(.prod (.prod (.prod (.int .i64) (.prod (.int .i64) (.prod (.list (.int .i64)) (.prod (.list (.int .i64)) .unit)))) (.prod (.int .i64) .unit)) (.prod (.int .i64) (.prod (.prod (.int .i64) (.prod (.int .i64) .unit)) .unit)))) (res:=(.prod (.int .i64) (.prod (.int .i64) .unit))) (multi:=true) (own:=false) (F:=f62) mixed (all_cons c63 all_nil) Try.func26 rfl hints62 fun x _=>⟨fuel,e62 fuel x⟩
noncomputable def specs69b:List Spec:=[sp117]
def hints69b:List (Nat×List Nat):=[(2,[0,1,7,8])]
noncomputable def L69b_0 (N:Nat) (n_L69b_0:Nat) (x:((List Int)×(Value×Unit))) (t8_1:Int):Out Int :=
  vloop Try.prog (phi specs69b) hints69b N Try.f47 false false (.int .i64) [.at 1,.at 0,.at 1,.at 0] n_L69b_0 [.d (.list (.int .i64)) x.1,.d .raw (Value.func (.func 30) #[] #[]),.und,.und,.und,.und,.und,.d (.int .i64) (lenI x.1),.d (.int .i64) t8_1,.und,.und,.und,.und,.und,.und,.und,.und,.und,.und]
theorem L69b_0_succ (N:Nat) (n_L69b_0:Nat) (x:((List Int)×(Value×Unit))) (t8_1:Int):L69b_0 N  (n_L69b_0+1) x t8_1 =
    (
    match (decide (t8_1<(lenI x.1))) with
    | true =>
      bif (inb t8_1 x.1.length) then
        match f117 ((List.getD x.1 t8_1.toNat (0:Int)),()) with
        | .ret r_2 =>
          match r_2 with
          | true =>
            .ret t8_1
          | false =>
            L69b_0 N n_L69b_0 x (IntKind.i64.wrap (t8_1+(1:Int)))
        | .pan p_3 =>
          .pan p_3
        | .fail=>.fail
      else .fail
    | false =>
      .ret (-1:Int):Out Int):=by
  kernel_rfl
noncomputable def F69b (N:Nat) (x:((List Int)×(Value×Unit))):Out Int :=
  L69b_0 N N x (0:Int)
theorem e69b (N:Nat) (x:((List Int)×(Value×Unit))):vfn Try.prog (phi specs69b) hints69b N Try.f47 false false (.prod (.list (.int .i64)) (.prod .raw .unit)) (.int .i64) (x.1,(Value.func (.func 30) #[] #[]),())=F69b N x:=by
  kernel_rfl
@[irreducible] noncomputable def f69b (x:((List Int)×(Value×Unit))):Out Int:=vfn Try.prog (phi specs69b) hints69b fuel Try.f47 false false (.prod (.list (.int .i64)) (.prod .raw .unit)) (.int .i64) x
noncomputable def sp69b:Spec:=⟨47,.call,(.prod (.list (.int .i64)) (.prod .raw .unit)),(.int .i64),false,false,f69b⟩
theorem q69b (x:((List Int)×(Value×Unit))):vfn Try.prog (phi specs69b) hints69b fuel Try.f47 false false (.prod (.list (.int .i64)) (.prod .raw .unit)) (.int .i64) x=f69b x:=by kernel_rfl
theorem c69b:Contract Try.prog sp69b:=contract_at (l:=specs69b) (arg:=(.prod (.list (.int .i64)) (.prod .raw .unit))) (res:=(.int .i64)) (multi:=false) (own:=false) (F:=f69b) mixed (all_cons c117 all_nil) Try.func47 rfl hints69b fun x _=>⟨fuel,q69b x⟩
noncomputable def specs69c:List Spec:=[sp90]
def hints69c:List (Nat×List Nat):=[(2,[0,1,7,8])]
@[irreducible] noncomputable def f69c (x:((List Int)×(Value×Unit))):Out Int:=vfn Try.prog (phi specs69c) hints69c fuel Try.f47 false false (.prod (.list (.int .i64)) (.prod .raw .unit)) (.int .i64) x
noncomputable def sp69c:Spec:=⟨47,.call,(.prod (.list (.int .i64)) (.prod .raw .unit)),(.int .i64),false,false,f69c⟩
theorem q69c (x:((List Int)×(Value×Unit))):vfn Try.prog (phi specs69c) hints69c fuel Try.f47 false false (.prod (.list (.int .i64)) (.prod .raw .unit)) (.int .i64) x=f69c x:=by kernel_rfl
theorem c69c:Contract Try.prog sp69c:=contract_at (l:=specs69c) (arg:=(.prod (.list (.int .i64)) (.prod .raw .unit))) (res:=(.int .i64)) (multi:=false) (own:=false) (F:=f69c) mixed (all_cons c90 all_nil) Try.func47 rfl hints69c fun x _=>⟨fuel,q69c x⟩
noncomputable def specs69d:List Spec:=[sp135]
def hints69d:List (Nat×List Nat):=[(2,[0,1,7,8])]
@[irreducible] noncomputable def f69d (x:((List Int)×(Value×Unit))):Out Int:=vfn Try.prog (phi specs69d) hints69d fuel Try.f47 false false (.prod (.list (.int .i64)) (.prod .raw .unit)) (.int .i64) x
noncomputable def sp69d:Spec:=⟨47,.call,(.prod (.list (.int .i64)) (.prod .raw .unit)),(.int .i64),false,false,f69d⟩
theorem q69d (x:((List Int)×(Value×Unit))):vfn Try.prog (phi specs69d) hints69d fuel Try.f47 false false (.prod (.list (.int .i64)) (.prod .raw .unit)) (.int .i64) x=f69d x:=by kernel_rfl
theorem c69d:Contract Try.prog sp69d:=contract_at (l:=specs69d) (arg:=(.prod (.list (.int .i64)) (.prod .raw .unit))) (res:=(.int .i64)) (multi:=false) (own:=false) (F:=f69d) mixed (all_cons c135 all_nil) Try.func47 rfl hints69d fun x _=>⟨fuel,q69d x⟩
noncomputable def specs108:List Spec:=[sp128,sp129,sp130]
def hints108:List (Nat×List Nat):=[(3,[0,3,4])]
noncomputable def L108_0 (N:Nat) (n_L108_0:Nat) (x:(Int×Unit)) (out_1:(List Int)) (x_2:Int):Out (List Int) :=
  vloop Try.prog (phi specs108) hints108 N Try.f57 false true (.list (.int .i64)) [.at 1,.at 1,.at 0,.at 1,.at 0] n_L108_0 [.d (.int .i64) x.1,.und,.und,.own (.int .i64) out_1 false,.d (.int .i64) x_2,.und,.und,.und,.und,.und,.und,.und,.und,.und,.und,.und,.und,.und,.und,.und,.und,.und,.und,.und,.und,.und,.und,.und,.und,.und,.und,.und,.und,.und,.und,.und,.und]
theorem L108_0_succ (N:Nat) (n_L108_0:Nat) (x:(Int×Unit)) (out_1:(List Int)) (x_2:Int):L108_0 N  (n_L108_0+1) x out_1 x_2 =
    (
    match (decide (x_2<=(999:Int))) with
    | true =>
      match (x_2 != x.1) with
      | true =>
        match f128 ((x_2,((0:Int),(true,()))),(x.1,())) with
        | .ret r_3 =>
          match r_3 with
          | true =>
            bif (fits out_1 ([x_2]:List Int)) then
              L108_0 N n_L108_0 x (out_1++([x_2]:List Int)) (IntKind.i64.wrap (x_2+(1:Int)))
            else .fail
          | false =>
            match f129 ((x_2,((0:Int),(true,()))),(x.1,())) with
            | .ret r_5 =>
              match r_5 with
              | true =>
                bif (fits out_1 ([x_2]:List Int)) then
                  L108_0 N n_L108_0 x (out_1++([x_2]:List Int)) (IntKind.i64.wrap (x_2+(1:Int)))
                else .fail
              | false =>
                match (x.1==(IntKind.i64.wrap (0 - x_2))) with
                | true =>
                  bif (fits out_1 ([x_2]:List Int)) then
                    L108_0 N n_L108_0 x (out_1++([x_2]:List Int)) (IntKind.i64.wrap (x_2+(1:Int)))
                  else .fail
                | false =>
                  L108_0 N n_L108_0 x out_1 (IntKind.i64.wrap (x_2+(1:Int)))
            | .pan p_6 =>
              .pan p_6
            | .fail=>.fail
        | .pan p_4 =>
          .pan p_4
        | .fail=>.fail
      | false =>
        L108_0 N n_L108_0 x out_1 (IntKind.i64.wrap (x_2+(1:Int)))
    | false =>
      .ret out_1:Out (List Int)):=by
  kernel_rfl
noncomputable def F108 (N:Nat) (x:(Int×Unit)):Out (List Int) :=
  L108_0 N N x ([x.1]:List Int) (-999:Int)
theorem e108 (N:Nat) (x:(Int×Unit)):vfn Try.prog (phi specs108) hints108 N Try.f57 false true (.prod (.int .i64) .unit) (.list (.int .i64)) x=F108 N x:=by
  kernel_rfl
noncomputable def f108 (x:(Int×Unit)):Out (List Int):=F108 fuel x
noncomputable def sp108:Spec:=⟨57,.call,(.prod (.int .i64) .unit),(.list (.int .i64)),false,true,f108⟩
theorem c108:Contract Try.prog sp108:=contract_at (l:=specs108) (arg:=(.prod (.int .i64) .unit)) (res:=(.list (.int .i64))) (multi:=false) (own:=true) (F:=f108) mixed (all_cons c128 (all_cons c129 (all_cons c130 all_nil))) Try.func57 rfl hints108 fun x _=>⟨fuel,e108 fuel x⟩
noncomputable def specs59:List Spec:=[sp60]
def hints59:List (Nat×List Nat):=[]
noncomputable def F59 (N:Nat) (x:((List Int)×((List Int)×Unit))):Out Bool :=
  match f60 (x.1,(x.2.1,())) with
  | .ret r_1 =>
    .ret (decide (r_1<(0:Int)))
  | .pan p_2 =>
    .pan p_2
  | .fail=>.fail
theorem e59 (N:Nat) (x:((List Int)×((List Int)×Unit))):vfn Try.prog (phi specs59) hints59 N Try.f23 false false (.prod (.list (.int .i64)) (.prod (.list (.int .i64)) .unit)) .bool x=F59 N x:=by
  kernel_rfl
noncomputable def f59 (x:((List Int)×((List Int)×Unit))):Out Bool:=F59 fuel x
noncomputable def sp59:Spec:=⟨23,.call,(.prod (.list (.int .i64)) (.prod (.list (.int .i64)) .unit)),.bool,false,false,f59⟩
theorem c59:Contract Try.prog sp59:=contract_at (l:=specs59) (arg:=(.prod (.list (.int .i64)) (.prod (.list (.int .i64)) .unit))) (res:=.bool) (multi:=false) (own:=false) (F:=f59) mixed (all_cons c60 all_nil) Try.func23 rfl hints59 fun x _=>⟨fuel,e59 fuel x⟩
noncomputable def specs65b:List Spec:=[sp69b]
def hints65b:List (Nat×List Nat):=[]
noncomputable def F65b (N:Nat) (x:((List Int)×(Value×Unit))):Out Bool :=
  match f69b (x.1,((Value.func (.func 30) #[] #[]),())) with
  | .ret r_1 =>
    .ret (decide (r_1 >= (0:Int)))
  | .pan p_2 =>
    .pan p_2
  | .fail=>.fail
theorem e65b (N:Nat) (x:((List Int)×(Value×Unit))):vfn Try.prog (phi specs65b) hints65b N Try.f29 false false (.prod (.list (.int .i64)) (.prod .raw .unit)) .bool (x.1,(Value.func (.func 30) #[] #[]),())=F65b N x:=by
  kernel_rfl
@[irreducible] noncomputable def f65b (x:((List Int)×(Value×Unit))):Out Bool:=vfn Try.prog (phi specs65b) hints65b fuel Try.f29 false false (.prod (.list (.int .i64)) (.prod .raw .unit)) .bool x
noncomputable def sp65b:Spec:=⟨29,.call,(.prod (.list (.int .i64)) (.prod .raw .unit)),.bool,false,false,f65b⟩
theorem q65b (x:((List Int)×(Value×Unit))):vfn Try.prog (phi specs65b) hints65b fuel Try.f29 false false (.prod (.list (.int .i64)) (.prod .raw .unit)) .bool x=f65b x:=by kernel_rfl
theorem c65b:Contract Try.prog sp65b:=contract_at (l:=specs65b) (arg:=(.prod (.list (.int .i64)) (.prod .raw .unit))) (res:=.bool) (multi:=false) (own:=false) (F:=f65b) mixed (all_cons c69b all_nil) Try.func29 rfl hints65b fun x _=>⟨fuel,q65b x⟩
noncomputable def specs65c:List Spec:=[sp69c]
def hints65c:List (Nat×List Nat):=[]
@[irreducible] noncomputable def f65c (x:((List Int)×(Value×Unit))):Out Bool:=vfn Try.prog (phi specs65c) hints65c fuel Try.f29 false false (.prod (.list (.int .i64)) (.prod .raw .unit)) .bool x
noncomputable def sp65c:Spec:=⟨29,.call,(.prod (.list (.int .i64)) (.prod .raw .unit)),.bool,false,false,f65c⟩
theorem q65c (x:((List Int)×(Value×Unit))):vfn Try.prog (phi specs65c) hints65c fuel Try.f29 false false (.prod (.list (.int .i64)) (.prod .raw .unit)) .bool x=f65c x:=by kernel_rfl
theorem c65c:Contract Try.prog sp65c:=contract_at (l:=specs65c) (arg:=(.prod (.list (.int .i64)) (.prod .raw .unit))) (res:=.bool) (multi:=false) (own:=false) (F:=f65c) mixed (all_cons c69c all_nil) Try.func29 rfl hints65c fun x _=>⟨fuel,q65c x⟩
noncomputable def specs65d:List Spec:=[sp69d]
def hints65d:List (Nat×List Nat):=[]
@[irreducible] noncomputable def f65d (x:((List Int)×(Value×Unit))):Out Bool:=vfn Try.prog (phi specs65d) hints65d fuel Try.f29 false false (.prod (.list (.int .i64)) (.prod .raw .unit)) .bool x
noncomputable def sp65d:Spec:=⟨29,.call,(.prod (.list (.int .i64)) (.prod .raw .unit)),.bool,false,false,f65d⟩
theorem q65d (x:((List Int)×(Value×Unit))):vfn Try.prog (phi specs65d) hints65d fuel Try.f29 false false (.prod (.list (.int .i64)) (.prod .raw .unit)) .bool x=f65d x:=by kernel_rfl
theorem c65d:Contract Try.prog sp65d:=contract_at (l:=specs65d) (arg:=(.prod (.list (.int .i64)) (.prod .raw .unit))) (res:=.bool) (multi:=false) (own:=false) (F:=f65d) mixed (all_cons c69d all_nil) Try.func29 rfl hints65d fun x _=>⟨fuel,q65d x⟩
noncomputable def specs88:List Spec:=[sp86,sp65b]
def hints88:List (Nat×List Nat):=[]
noncomputable def F88 (N:Nat) (x:((List Int)×Unit)):Out Bool :=
  match f86 ((lenI x.1),((1:Int),((6:Int),()))) with
  | .ret r_1 =>
    match r_1 with
    | true =>
      match f65b (x.1,((Value.func (.func 30) #[] #[]),())) with
      | .ret r_3 =>
        .ret (!r_3)
      | .pan p_4 =>
        .pan p_4
      | .fail=>.fail
    | false =>
      .ret false
  | .pan p_2 =>
    .pan p_2
  | .fail=>.fail
theorem e88 (N:Nat) (x:((List Int)×Unit)):vfn Try.prog (phi specs88) hints88 N Try.f15 false false (.prod (.list (.int .i64)) .unit) .bool x=F88 N x:=by
  kernel_rfl
noncomputable def f88 (x:((List Int)×Unit)):Out Bool:=F88 fuel x
noncomputable def sp88:Spec:=⟨15,.call,(.prod (.list (.int .i64)) .unit),.bool,false,false,f88⟩
theorem c88:Contract Try.prog sp88:=contract_at (l:=specs88) (arg:=(.prod (.list (.int .i64)) .unit)) (res:=.bool) (multi:=false) (own:=false) (F:=f88) mixed (all_cons c86 (all_cons c65b all_nil)) Try.func15 rfl hints88 fun x _=>⟨fuel,e88 fuel x⟩
noncomputable def specs121:List Spec:=[sp70,sp71,sp65d]
def hints121:List (Nat×List Nat):=[(5,[1,3,31,32,33])]
noncomputable def L121_0 (N:Nat) (n_L121_0:Nat) (x:((Int×(Int×((List Int)×((List Int)×Unit))))×Unit)) (most_9:Int) (t33_10:Int):Out Bool :=
  vloop Try.prog (phi specs121) hints121 N Try.f66 false false .bool [.at 1,.at 1,.at 1,.at 0,.at 1,.at 0] n_L121_0 [.und,.box [.d (.int .i64) x.1.1,.d (.int .i64) x.1.2.1,.d (.list (.int .i64)) x.1.2.2.1,.d (.list (.int .i64)) x.1.2.2.2.1],.und,.d (.int .i64) most_9,.und,.und,.und,.und,.und,.und,.und,.und,.und,.und,.und,.und,.und,.und,.und,.und,.und,.und,.und,.und,.und,.und,.und,.und,.und,.und,.und,.d (.list (.int .i64)) x.1.2.2.1,.d (.int .i64) (lenI x.1.2.2.1),.d (.int .i64) t33_10,.und,.und,.und,.und,.und,.und,.und,.und,.und,.und,.und,.und,.und]
noncomputable def F121 (N:Nat) (x:((Int×(Int×((List Int)×((List Int)×Unit))))×Unit)):Out Bool :=
  match f70 (x.1.1,((1:Int),((1000:Int),()))) with
  | .ret r_1 =>
    match (!r_1) with
    | true =>
      .ret false
    | false =>
      match f71 (x.1.2.1,()) with
      | .ret r_3 =>
        match (!r_3) with
        | true =>
          .ret false
        | false =>
          match f70 ((lenI x.1.2.2.1),((1:Int),((5:Int),()))) with
          | .ret r_5 =>
            match (!r_5) with
            | true =>
              .ret false
            | false =>
              match f70 ((lenI x.1.2.2.2.1),((1:Int),((5:Int),()))) with
              | .ret r_7 =>
                match (!r_7) with
                | true =>
                  .ret false
                | false =>
                  L121_0 N N x (8:Int) (0:Int)
              | .pan p_8 =>
                .pan p_8
              | .fail=>.fail
          | .pan p_6 =>
            .pan p_6
          | .fail=>.fail
      | .pan p_4 =>
        .pan p_4
      | .fail=>.fail
  | .pan p_2 =>
    .pan p_2
  | .fail=>.fail
theorem e121 (N:Nat) (x:((Int×(Int×((List Int)×((List Int)×Unit))))×Unit)):vfn Try.prog (phi specs121) hints121 N Try.f66 false false (.prod (.prod (.int .i64) (.prod (.int .i64) (.prod (.list (.int .i64)) (.prod (.list (.int .i64)) .unit)))) .unit) .bool x=F121 N x:=by
  kernel_rfl
noncomputable def f121 (x:((Int×(Int×((List Int)×((List Int)×Unit))))×Unit)):Out Bool:=F121 fuel x
noncomputable def sp121:Spec:=⟨66,.call,(.prod (.prod (.int .i64) (.prod (.int .i64) (.prod (.list (.int .i64)) (.prod (.list (.int .i64)) .unit)))) .unit),.bool,false,false,f121⟩
theorem c121:Contract Try.prog sp121:=contract_at (l:=specs121) (arg:=(.prod (.prod (.int .i64) (.prod (.int .i64) (.prod (.list (.int .i64)) (.prod (.list (.int .i64)) .unit)))) .unit)) (res:=.bool) (multi:=false) (own:=false) (F:=f121) mixed (all_cons c70 (all_cons c71 (all_cons c65d all_nil))) Try.func66 rfl hints121 fun x _=>⟨fuel,e121 fuel x⟩
noncomputable def specs58a:List Spec:=[sp59]
def hints58a:List (Nat×List Nat):=[(3,[1,5,12,13,14])]
@[irreducible] noncomputable def f58a (x:((List (List Int))×(Value×Unit))):Out (List Int):=vfn Try.prog (phi specs58a) hints58a fuel Try.f22 false false (.prod (.list (.list (.int .i64))) (.prod .raw .unit)) (.list (.int .i64)) x
noncomputable def sp58a:Spec:=⟨22,.call,(.prod (.list (.list (.int .i64))) (.prod .raw .unit)),(.list (.int .i64)),false,false,f58a⟩
theorem q58a (x:((List (List Int))×(Value×Unit))):vfn Try.prog (phi specs58a) hints58a fuel Try.f22 false false (.prod (.list (.list (.int .i64))) (.prod .raw .unit)) (.list (.int .i64)) x=f58a x:=by kernel_rfl
theorem c58a:Contract Try.prog sp58a:=contract_at (l:=specs58a) (arg:=(.prod (.list (.list (.int .i64))) (.prod .raw .unit))) (res:=(.list (.int .i64))) (multi:=false) (own:=false) (F:=f58a) mixed (all_cons c59 all_nil) Try.func22 rfl hints58a fun x _=>⟨fuel,q58a x⟩
noncomputable def specs87:List Spec:=[sp88]
def hints87:List (Nat×List Nat):=[]
noncomputable def F87 (N:Nat) (x:((List Int)×(((List (List Int))×((List Int)×Unit))×Unit))):Out Bool :=
  match f88 (x.1,()) with
  | .ret r_1 =>
    match (!r_1) with
    | true =>
      .ret true
    | false =>
      bif (inb (0:Int) x.2.1.1.length) then
        .ret ((lenI x.1) != (lenI (List.getD x.2.1.1 (0:Int).toNat ([]:List Int))))
      else .fail
  | .pan p_2 =>
    .pan p_2
  | .fail=>.fail
theorem e87 (N:Nat) (x:((List Int)×(((List (List Int))×((List Int)×Unit))×Unit))):vfn Try.prog (phi specs87) hints87 N Try.f40 false false (.prod (.list (.int .i64)) (.prod (.ptr (.prod (.list (.list (.int .i64))) (.prod (.list (.int .i64)) .unit))) .unit)) .bool x=F87 N x:=by
  kernel_rfl
noncomputable def f87 (x:((List Int)×(((List (List Int))×((List Int)×Unit))×Unit))):Out Bool:=F87 fuel x
noncomputable def sp87:Spec:=⟨40,.call,(.prod (.list (.int .i64)) (.prod (.ptr (.prod (.list (.list (.int .i64))) (.prod (.list (.int .i64)) .unit))) .unit)),.bool,false,false,f87⟩
theorem c87:Contract Try.prog sp87:=contract_at (l:=specs87) (arg:=(.prod (.list (.int .i64)) (.prod (.ptr (.prod (.list (.list (.int .i64))) (.prod (.list (.int .i64)) .unit))) .unit))) (res:=.bool) (multi:=false) (own:=false) (F:=f87) mixed (all_cons c88 all_nil) Try.func40 rfl hints87 fun x _=>⟨fuel,e87 fuel x⟩
noncomputable def specs92:List Spec:=[sp121,sp70]
def hints92:List (Nat×List Nat):=[]
noncomputable def F92 (N:Nat) (x:((Int×(Int×((List Int)×((List Int)×Unit))))×(Int×Unit))):Out (((Int×(Int×((List Int)×((List Int)×Unit))))×(Int×Unit))×(Int×Unit)) :=
  match f121 (x.1,()) with
  | .ret r_1 =>
    match (!r_1) with
    | true =>
      .ret ((((0:Int),((0:Int),(([]:List Int),(([]:List Int),())))),((0:Int),())),((2:Int),()))
    | false =>
      match f70 (x.2.1,((0:Int),((IntKind.i64.wrap ((lenI x.1.2.2.1) - (1:Int))),()))) with
      | .ret r_3 =>
        match (!r_3) with
        | true =>
          .ret ((((0:Int),((0:Int),(([]:List Int),(([]:List Int),())))),((0:Int),())),((2:Int),()))
        | false =>
          .ret (x,((0:Int),()))
      | .pan p_4 =>
        .pan p_4
      | .fail=>.fail
  | .pan p_2 =>
    .pan p_2
  | .fail=>.fail
theorem e92 (N:Nat) (x:((Int×(Int×((List Int)×((List Int)×Unit))))×(Int×Unit))):vfn Try.prog (phi specs92) hints92 N Try.f44 true false (.prod (.prod (.int .i64) (.prod (.int .i64) (.prod (.list (.int .i64)) (.prod (.list (.int .i64)) .unit)))) (.prod (.int .i64) .unit)) (.prod (.prod (.prod (.int .i64) (.prod (.int .i64) (.prod (.list (.int .i64)) (.prod (.list (.int .i64)) .unit)))) (.prod (.int .i64) .unit)) (.prod (.int .i64) .unit)) x=F92 N x:=by
  kernel_rfl
noncomputable def f92 (x:((Int×(Int×((List Int)×((List Int)×Unit))))×(Int×Unit))):Out (((Int×(Int×((List Int)×((List Int)×Unit))))×(Int×Unit))×(Int×Unit)):=F92 fuel x
noncomputable def sp92:Spec:=⟨44,.call,(.prod (.prod (.int .i64) (.prod (.int .i64) (.prod (.list (.int .i64)) (.prod (.list (.int .i64)) .unit)))) (.prod (.int .i64) .unit)),(.prod (.prod (.prod (.int .i64) (.prod (.int .i64) (.prod (.list (.int .i64)) (.prod (.list (.int .i64)) .unit)))) (.prod (.int .i64) .unit)) (.prod (.int .i64) .unit)),true,false,f92⟩
theorem c92:Contract Try.prog sp92:=contract_at (l:=specs92) (arg:=(.prod (.prod (.int .i64) (.prod (.int .i64) (.prod (.list (.int .i64)) (.prod (.list (.int .i64)) .unit)))) (.prod (.int .i64) .unit))) (res:=(.prod (.prod (.prod (.int .i64) (.prod (.int .i64) (.prod (.list (.int .i64)) (.prod (.list (.int .i64)) .unit)))) (.prod (.int .i64) .unit)) (.prod (.int .i64) .unit))) (multi:=true) (own:=false) (F:=f92) mixed (all_cons c121 (all_cons c70 all_nil)) Try.func44 rfl hints92 fun x _=>⟨fuel,e92 fuel x⟩
noncomputable def specs119a:List Spec:=[sp87]
def hints119a:List (Nat×List Nat):=[(2,[0,1,7,8])]
noncomputable def L119a_0 (N:Nat) (n_L119a_0:Nat) (x:((List (List Int))×((Unit×(((List (List Int))×((List Int)×Unit))×Unit))×Unit))) (t8_1:Int):Out Int :=
  vloop Try.prog (phi specs119a) hints119a N Try.f64 false false (.int .i64) [.at 1,.at 0,.at 1,.at 0] n_L119a_0 [.d (.list (.list (.int .i64))) x.1,.d (.clo 40 .unit (.prod (.ptr (.prod (.list (.list (.int .i64))) (.prod (.list (.int .i64)) .unit))) .unit)) x.2.1,.und,.und,.und,.und,.und,.d (.int .i64) (lenI x.1),.d (.int .i64) t8_1,.und,.und,.und,.und,.und,.und,.und,.und,.und,.und]
noncomputable def F119a (N:Nat) (x:((List (List Int))×((Unit×(((List (List Int))×((List Int)×Unit))×Unit))×Unit))):Out Int :=
  L119a_0 N N x (0:Int)
theorem e119a (N:Nat) (x:((List (List Int))×((Unit×(((List (List Int))×((List Int)×Unit))×Unit))×Unit))):vfn Try.prog (phi specs119a) hints119a N Try.f64 false false (.prod (.list (.list (.int .i64))) (.prod (.clo 40 .unit (.prod (.ptr (.prod (.list (.list (.int .i64))) (.prod (.list (.int .i64)) .unit))) .unit)) .unit)) (.int .i64) x=F119a N x:=by
  kernel_rfl
noncomputable def f119a (x:((List (List Int))×((Unit×(((List (List Int))×((List Int)×Unit))×Unit))×Unit))):Out Int:=F119a fuel x
noncomputable def sp119a:Spec:=⟨64,.call,(.prod (.list (.list (.int .i64))) (.prod (.clo 40 .unit (.prod (.ptr (.prod (.list (.list (.int .i64))) (.prod (.list (.int .i64)) .unit))) .unit)) .unit)),(.int .i64),false,false,f119a⟩
theorem c119a:Contract Try.prog sp119a:=contract_at (l:=specs119a) (arg:=(.prod (.list (.list (.int .i64))) (.prod (.clo 40 .unit (.prod (.ptr (.prod (.list (.list (.int .i64))) (.prod (.list (.int .i64)) .unit))) .unit)) .unit))) (res:=(.int .i64)) (multi:=false) (own:=false) (F:=f119a) mixed (all_cons c87 all_nil) Try.func64 rfl hints119a fun x _=>⟨fuel,e119a fuel x⟩
noncomputable def specs89a:List Spec:=[sp119a]
def hints89a:List (Nat×List Nat):=[]
noncomputable def F89a (N:Nat) (x:((List (List Int))×((Unit×(((List (List Int))×((List Int)×Unit))×Unit))×Unit))):Out Bool :=
  match f119a (x.1,(x.2.1,())) with
  | .ret r_1 =>
    .ret (decide (r_1 >= (0:Int)))
  | .pan p_2 =>
    .pan p_2
  | .fail=>.fail
theorem e89a (N:Nat) (x:((List (List Int))×((Unit×(((List (List Int))×((List Int)×Unit))×Unit))×Unit))):vfn Try.prog (phi specs89a) hints89a N Try.f41 false false (.prod (.list (.list (.int .i64))) (.prod (.clo 40 .unit (.prod (.ptr (.prod (.list (.list (.int .i64))) (.prod (.list (.int .i64)) .unit))) .unit)) .unit)) .bool x=F89a N x:=by
  kernel_rfl
noncomputable def f89a (x:((List (List Int))×((Unit×(((List (List Int))×((List Int)×Unit))×Unit))×Unit))):Out Bool:=F89a fuel x
noncomputable def sp89a:Spec:=⟨41,.call,(.prod (.list (.list (.int .i64))) (.prod (.clo 40 .unit (.prod (.ptr (.prod (.list (.list (.int .i64))) (.prod (.list (.int .i64)) .unit))) .unit)) .unit)),.bool,false,false,f89a⟩
theorem c89a:Contract Try.prog sp89a:=contract_at (l:=specs89a) (arg:=(.prod (.list (.list (.int .i64))) (.prod (.clo 40 .unit (.prod (.ptr (.prod (.list (.list (.int .i64))) (.prod (.list (.int .i64)) .unit))) .unit)) .unit))) (res:=.bool) (multi:=false) (own:=false) (F:=f89a) mixed (all_cons c119a all_nil) Try.func41 rfl hints89a fun x _=>⟨fuel,e89a fuel x⟩
noncomputable def specs57:List Spec:=[sp86,sp89a,sp65c]
def hints57:List (Nat×List Nat):=[(4000003,[1,42])]
noncomputable def F57 (N:Nat) (x:(((List (List Int))×((List Int)×Unit))×Unit)):Out Bool :=
  match f86 ((lenI x.1.1),((1:Int),((3:Int),()))) with
  | .ret r_1 =>
    match (!r_1) with
    | true =>
      .ret false
    | false =>
      match ((lenI x.1.2.1) != (lenI x.1.1)) with
      | true =>
        .ret false
      | false =>
        match f89a (x.1.1,(((),(x.1,())),())) with
        | .ret r_3 =>
          match (!r_3) with
          | true =>
            match f65c (x.1.2.1,((Value.func (.func 42) #[] #[]),())) with
            | .ret r_5 =>
              .ret (!r_5)
            | .pan p_6 =>
              .pan p_6
            | .fail=>.fail
          | false =>
            .ret false
        | .pan p_4 =>
          .pan p_4
        | .fail=>.fail
  | .pan p_2 =>
    .pan p_2
  | .fail=>.fail
theorem e57 (N:Nat) (x:(((List (List Int))×((List Int)×Unit))×Unit)):vfn Try.prog (phi specs57) hints57 N Try.f21 false false (.prod (.prod (.list (.list (.int .i64))) (.prod (.list (.int .i64)) .unit)) .unit) .bool x=F57 N x:=by
  kernel_rfl
noncomputable def f57 (x:(((List (List Int))×((List Int)×Unit))×Unit)):Out Bool:=F57 fuel x
noncomputable def sp57:Spec:=⟨21,.call,(.prod (.prod (.list (.list (.int .i64))) (.prod (.list (.int .i64)) .unit)) .unit),.bool,false,false,f57⟩
theorem c57:Contract Try.prog sp57:=contract_at (l:=specs57) (arg:=(.prod (.prod (.list (.list (.int .i64))) (.prod (.list (.int .i64)) .unit)) .unit)) (res:=.bool) (multi:=false) (own:=false) (F:=f57) mixed (all_cons c86 (all_cons c89a (all_cons c65c all_nil))) Try.func21 rfl hints57 fun x _=>⟨fuel,e57 fuel x⟩
noncomputable def specs94:List Spec:=[sp123a]
def hints94:List (Nat×List Nat):=[]
noncomputable def F94 (N:Nat) (x:((List Int)×Unit)):Out (Int×(Int×Unit)) :=
  match f123a (x.1,((Value.func (.func 69) #[] #[]),())) with
  | .ret r_1 =>
    match f123a (x.1,((Value.func (.func 70) #[] #[]),())) with
    | .ret r_3 =>
      .ret (r_1,(r_3,()))
    | .pan p_4 =>
      .pan p_4
    | .fail=>.fail
  | .pan p_2 =>
    .pan p_2
  | .fail=>.fail
theorem e94 (N:Nat) (x:((List Int)×Unit)):vfn Try.prog (phi specs94) hints94 N Try.f46 false false (.prod (.list (.int .i64)) .unit) (.prod (.int .i64) (.prod (.int .i64) .unit)) x=F94 N x:=by
  kernel_rfl
noncomputable def f94 (x:((List Int)×Unit)):Out (Int×(Int×Unit)):=F94 fuel x
noncomputable def sp94:Spec:=⟨46,.call,(.prod (.list (.int .i64)) .unit),(.prod (.int .i64) (.prod (.int .i64) .unit)),false,false,f94⟩
theorem c94:Contract Try.prog sp94:=contract_at (l:=specs94) (arg:=(.prod (.list (.int .i64)) .unit)) (res:=(.prod (.int .i64) (.prod (.int .i64) .unit))) (multi:=false) (own:=false) (F:=f94) mixed (all_cons c123a all_nil) Try.func46 rfl hints94 fun x _=>⟨fuel,e94 fuel x⟩
end Go.V
